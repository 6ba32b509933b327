-- WRITTEN by wip/ext.py
import Derived.Test.YtieghkchhjailaaSx0
namespace Go.Proofs.Ytieghkchhjailaa.S
open Go.RowKit Go.Proofs.YtieghkchhjailaaW.PrintWords Go.Proofs.YtieghkchhjailaaW.PrintLast Go.Proofs.YtieghkchhjailaaW.PrintMore
attribute [local go_sem] max2_int min2_int max_two min_two max_three min_three max_four min_four   -- for this text's walks alone
set_option linter.unusedVariables false
set_option linter.unusedSimpArgs false

/-! ### spec_sortedTexts: function 132 -/
mutual
def spec_sortedTexts.l0 : Nat → List ByteArray → List ByteArray → Int → Option (List ByteArray)
 | 0, _, _, _ => none
 | k + 1, x0, x3, x4 => if x4 < (x0.length : Int) then (spec_sortedTexts.l1 k x0 x3 x4 0) else (some x3)
def spec_sortedTexts.l1 : Nat → List ByteArray → List ByteArray → Int → Int → Option (List ByteArray)
 | 0, _, _, _, _ => none
 | k + 1, x0, x3, x4, x5 => if x5 < (x3.length : Int) then (if 0 ≤ x5 then (if 0 ≤ x4 then (if x4 < (x0.length : Int) then (if (Op.bytesLess ((rdOf ByteArray.empty x3 x5).toList) ((rdOf ByteArray.empty x0 x4).toList)) = true then (spec_sortedTexts.l1 k x0 x3 x4 (wrap64 (x5 + 1))) else (if x5 = (x3.length : Int) then ((some (([] : List ByteArray) : List ByteArray)).bind fun y144 => (if x5 ≤ (x3.length : Int) then ((some (x3.take (x5 : Int).toNat : List ByteArray)).bind fun y147 => (if y144.length + y147.length < 8796093022208 then ((some (y144 ++ y147 : List ByteArray)).bind fun y151 => ((some (([rdOf ByteArray.empty x0 x4] : List ByteArray) : List ByteArray)).bind fun y155 => (if y151.length + y155.length < 8796093022208 then ((some (y151 ++ y155 : List ByteArray)).bind fun y158 => ((some (x3.drop (x5 : Int).toNat : List ByteArray)).bind fun y161 => (if y158.length + y161.length < 8796093022208 then (spec_sortedTexts.l0 k x0 (y158 ++ y161) (wrap64 (x4 + 1))) else (none)))) else (none)))) else (none))) else (none))) else (if (rdOf ByteArray.empty x3 x5).toList = (rdOf ByteArray.empty x0 x4).toList then (spec_sortedTexts.l0 k x0 x3 (wrap64 (x4 + 1))) else ((some (([] : List ByteArray) : List ByteArray)).bind fun y170 => (if x5 ≤ (x3.length : Int) then ((some (x3.take (x5 : Int).toNat : List ByteArray)).bind fun y173 => (if y170.length + y173.length < 8796093022208 then ((some (y170 ++ y173 : List ByteArray)).bind fun y177 => ((some (([rdOf ByteArray.empty x0 x4] : List ByteArray) : List ByteArray)).bind fun y181 => (if y177.length + y181.length < 8796093022208 then ((some (y177 ++ y181 : List ByteArray)).bind fun y184 => ((some (x3.drop (x5 : Int).toNat : List ByteArray)).bind fun y187 => (if y184.length + y187.length < 8796093022208 then (spec_sortedTexts.l0 k x0 (y184 ++ y187) (wrap64 (x4 + 1))) else (none)))) else (none)))) else (none))) else (none)))))) else (none)) else (none)) else (none)) else (if x5 = (x3.length : Int) then ((some (([] : List ByteArray) : List ByteArray)).bind fun y194 => (if 0 ≤ x5 then (if x5 ≤ (x3.length : Int) then ((some (x3.take (x5 : Int).toNat : List ByteArray)).bind fun y197 => (if y194.length + y197.length < 8796093022208 then ((some (y194 ++ y197 : List ByteArray)).bind fun y201 => (if 0 ≤ x4 then (if x4 < (x0.length : Int) then ((some (([rdOf ByteArray.empty x0 x4] : List ByteArray) : List ByteArray)).bind fun y205 => (if y201.length + y205.length < 8796093022208 then ((some (y201 ++ y205 : List ByteArray)).bind fun y208 => ((some (x3.drop (x5 : Int).toNat : List ByteArray)).bind fun y211 => (if y208.length + y211.length < 8796093022208 then (spec_sortedTexts.l0 k x0 (y208 ++ y211) (wrap64 (x4 + 1))) else (none)))) else (none))) else (none)) else (none))) else (none))) else (none)) else (none))) else (if 0 ≤ x5 then (none) else (none)))
end
def spec_sortedTexts.f (k : Nat) (l0 : List ByteArray) : Option (List ByteArray) := spec_sortedTexts.l0 k l0 (([] : List ByteArray)) 0
theorem spec_sortedTexts.mono_l : ∀ k, (∀ y0 y1 y2, LeO (spec_sortedTexts.l0 k y0 y1 y2) (spec_sortedTexts.l0 (k + 1) y0 y1 y2)) ∧ (∀ y0 y1 y2 y3, LeO (spec_sortedTexts.l1 k y0 y1 y2 y3) (spec_sortedTexts.l1 (k + 1) y0 y1 y2 y3))
 | 0 => ⟨fun _ _ _ r h => by simp [spec_sortedTexts.l0] at h, fun _ _ _ _ r h => by simp [spec_sortedTexts.l1] at h⟩
 | k + 1 => by
  obtain ⟨ih0, ih1⟩ := spec_sortedTexts.mono_l k
  refine ⟨?_, ?_⟩
  ·intro y0 y1 y2
   unfold spec_sortedTexts.l0
   repeat' first | (with_reducible first | exact ih0 _ _ _ | exact ih1 _ _ _ _ | exact le1_ | exact le2_ | apply LeO.ite | refine LeO.bind ?_ fun _ => ?_) | apply LeO.ite | refine LeO.bind ?_ fun _ => ?_
  ·intro y0 y1 y2 y3
   unfold spec_sortedTexts.l1
   repeat' first | (with_reducible first | exact ih0 _ _ _ | exact ih1 _ _ _ _ | exact le1_ | exact le2_ | apply LeO.ite | refine LeO.bind ?_ fun _ => ?_) | apply LeO.ite | refine LeO.bind ?_ fun _ => ?_
theorem spec_sortedTexts.mono : ∀ a0 k, LeO (spec_sortedTexts.f k a0) (spec_sortedTexts.f (k + 1) a0) := by
 intro a0 k
 obtain ⟨ih0, ih1⟩ := spec_sortedTexts.mono_l k
 unfold spec_sortedTexts.f
 repeat' first | (with_reducible first | exact ih0 _ _ _ | exact ih1 _ _ _ _ | exact le1_ | exact le2_ | apply LeO.ite | refine LeO.bind ?_ fun _ => ?_) | apply LeO.ite | refine LeO.bind ?_ fun _ => ?_
def spec_sortedTexts.T6 : Bool × List (List Nat × List Nat) := (true, [([], []), ([], []), ([1], [1]), ([0, 2], [0, 2]), ([3], [3]), ([4], [4]), ([4], [4]), ([5, 6, 4], [4, 5, 6]), ([7, 4], [4, 7]), ([4], [4]), ([4], [4]), ([9, 10, 4], [4, 9, 10]), ([11, 4], [4, 11]), ([8, 12, 4], [4, 8, 12]), ([4, 13], [4, 13])])
def spec_sortedTexts.B6 : List Nat := [0, 0, 2, 7, 15, 31, 31, 127, 255, 31, 31, 1567, 3615, 8191, 16383]
theorem spec_sortedTexts.tab6 : rtab .any (opsOf Try.f132 6) = spec_sortedTexts.T6 := by kernel_rfl
theorem spec_sortedTexts.bits6 : waitsOk spec_sortedTexts.T6.2 spec_sortedTexts.B6 = true := by kernel_rfl
def spec_sortedTexts.T8 : Bool × List (List Nat × List Nat) := (true, [([], []), ([], []), ([1], [1]), ([0, 2], [0, 2]), ([3], [3]), ([4], [4]), ([4], [4]), ([5, 6, 4], [4, 5, 6]), ([7, 4], [4, 7]), ([4], [4]), ([4], [4]), ([9, 10, 4], [4, 9, 10]), ([11, 4], [4, 11]), ([8, 12, 4], [4, 8, 12]), ([4, 13], [4, 13])])
def spec_sortedTexts.B8 : List Nat := [0, 0, 2, 7, 15, 31, 31, 127, 255, 31, 31, 1567, 3615, 8191, 16383]
theorem spec_sortedTexts.tab8 : rtab .any (opsOf Try.f132 8) = spec_sortedTexts.T8 := by kernel_rfl
theorem spec_sortedTexts.bits8 : waitsOk spec_sortedTexts.T8.2 spec_sortedTexts.B8 = true := by kernel_rfl
def spec_sortedTexts.T9 : Bool × List (List Nat × List Nat) := (true, [([], []), ([], []), ([], []), ([1, 2], [1, 2]), ([0, 3], [0, 3]), ([], []), ([], []), ([5, 6], [5, 6]), ([7], [7]), ([8], [8]), ([4, 9, 4], [4, 9]), ([], []), ([], []), ([11, 12], [11, 12]), ([10, 13, 10], [10, 13]), ([14, 14, 0, 1, 2, 3, 4, 5, 6, 7, 8, 9, 10, 11, 12, 13, 14], [1, 11, 14])])
def spec_sortedTexts.B9 : List Nat := [0, 0, 0, 6, 15, 0, 0, 96, 224, 480, 1023, 0, 0, 6144, 16383, 32767]
theorem spec_sortedTexts.tab9 : rtab .any (opsOf Try.f132 9) = spec_sortedTexts.T9 := by kernel_rfl
theorem spec_sortedTexts.bits9 : waitsOk spec_sortedTexts.T9.2 spec_sortedTexts.B9 = true := by kernel_rfl
set_option maxHeartbeats 8000000 in
set_option maxRecDepth 100000 in
theorem spec_sortedTexts.calls (k : Nat) (A0 : Option Addr) (c0 : Nat) (l0 : List ByteArray) (r : List ByteArray) (w : World) (hr0 : Kd.C Kd.string w A0 l0.length l0) (hc0 : l0.length ≤ c0) (h : spec_sortedTexts.f k l0 = some r) :
  Calls Try.prog 132 #[.slice A0 l0.length c0] w fun e w' => ∃ v0_ : Value, e = .returned (v0_) ∧ Kd.R Kd.string 9 w' w.heap.size (fun _ => True) v0_ r ∧ Below w.heap.size w w' := by
 have HR0 := zA hr0; have HC0 := zA hc0; clear hr0 hc0; have HB := zA zz2
 have H : (spec_sortedTexts.l0 k l0 (([] : List ByteArray)) 0) = some r := h
 clear h
 obtain ⟨y139, hy139⟩ : ∃ y_ : List ByteArray, y_ = (([] : List ByteArray)) := ⟨_, rfl⟩
 replace H : (spec_sortedTexts.l0 k l0 y139 0) = some r := (zz24 hy139)
 have Ny139 := zA hy139; clear hy139; have H' := zA H; clear H
 go_enter Try.func132, Try.ntmps132
 go_wp2_with (((with_reducible refine gate_dst (N := 6) rfl ?_); refine rl_ Kd.string 9 6 ?_; intro v140 w2 ho3 hb; replace ho3 := ny_ Ny139.out ho3; have HO141 := zA (zz39 ho3); replace HB := zA zz4; clear hb ho3))
 go_loopg [3, 4] k (fun kq v3 v4 w' => ∃ (x3_1 : List ByteArray) (x4_1 : Int), v4 = .int .i64 x4_1 ∧ Aside0 (spec_sortedTexts.l0 kq l0 x3_1 x4_1 = some r) ∧ Aside0 (kq ≤ k) ∧ Aside0 (Kd.R Kd.string 9 w' w.heap.size (fun _ => True) v3 x3_1) ∧ Aside0 (Below w.heap.size w w'))
 case atStart => exact ⟨(y139), (0), zz9, H', ⟨Nat.le_refl _⟩, ⟨(zz22 HO141.out)⟩, ⟨zz23⟩⟩
 case round =>
  clear H'; try clear c1; try clear p2
  obtain ⟨x3_1, x4_1, rfl, HA, HK1, HO_3, HB⟩ := hrel
  cases gk with
  | zero => exact absurd HA.out (by simp [spec_sortedTexts.l0])
  | succ k1 =>
   have H := HA.out; clear HA
   simp only [spec_sortedTexts.l0] at H
   rcases iu_ H with ⟨c4b0, H⟩ | ⟨c4b0, H⟩
   ·have H' := zA H; clear H
    go_wp2
    go_loopg [5] k1 (fun kq v5 w' => ∃ (x5_2 : Int), v5 = .int .i64 x5_2 ∧ Aside0 (spec_sortedTexts.l1 kq l0 x3_1 x4_1 x5_2 = some r) ∧ Aside0 (kq ≤ k1) ∧ Aside0 (Kd.R Kd.string 9 w' w.heap.size (fun _ => True) u3 x3_1) ∧ Aside0 (Below w.heap.size w w'))
    case atStart => exact ⟨(0), zz9, H', ⟨Nat.le_refl _⟩, ⟨(zz22 HO_3.out)⟩, ⟨zz23⟩⟩
    case round =>
     clear H'; try clear c1; try clear p2; try clear c4; try clear c4b0; try clear p2
     obtain ⟨x5_2, rfl, HA, HK2, HO_3, HB⟩ := hrel
     cases gk with
     | zero => exact absurd HA.out (by simp [spec_sortedTexts.l1])
     | succ k2 =>
      have H := HA.out; clear HA
      simp only [spec_sortedTexts.l1] at H
      rcases iu_ H with ⟨c5b0, H⟩ | ⟨c5b0, H⟩
      ·obtain ⟨c6b0, H⟩ := it_ H
       obtain ⟨c7b0, H⟩ := it_ H
       obtain ⟨c8b0, H⟩ := it_ H
       rcases ie_ H with ⟨c9, H⟩ | ⟨c9, H⟩
       ·have c9b0 : (Op.bytesLess ((rdOf ByteArray.empty x3_1 x5_2).toList) ((rdOf ByteArray.empty l0 x4_1).toList)) = true := c9
        clear c9; have H' := zA H; clear H; try go_wp2; replace HO_3 := zA (Kd.R_drew HO_3.out); replace HB := zA zz40
        obtain ⟨Ao11, co11, eo11⟩ := Kd.R_slice HO_3.out
        (first | subst eo11 | (injection eo11 with f1_ f2_ f3_; have f4_ := f1_.symm; have f5_ := f3_.symm; clear f1_ f2_ f3_; subst f4_; subst f5_))
        have p142 : 0 ≤ (x5_2 : Int) := dz_
        have q142 : x5_2 < (x3_1.length : Int) := dz_
        obtain ⟨ad142, e142, hx142_0⟩ := Kd.at_string (Kd.R_reads' HO_3.out).2.2 x5_2 p142 q142
        cases e142
        replace p142 := eq_true p142
        replace q142 := eq_true q142
        have p143 : 0 ≤ (x4_1 : Int) := dz_
        have q143 : x4_1 < (l0.length : Int) := dz_
        obtain ⟨ad143, e143, hx143_0⟩ := Kd.at_string HR0.out x4_1 p143 q143
        have hw143_0 := hx143_0
        cases e143
        replace hx143_0 := cup_ HB.out hx143_0
        replace p143 := eq_true p143
        replace q143 := eq_true q143
        refine start_ (n := 15) (S := fun w' => w'.cell? (ad142.add (x5_2).toNat) = some (.string (rdOf ByteArray.empty x3_1 x5_2)) ∧ w'.cell? (ad143.add (x4_1).toNat) = some (.string (rdOf ByteArray.empty l0 x4_1))) (ds := []) #[ff,ff,ff,ff,ff,ff,ff,ff,ff,ff,ff,ff,ff,ff,ff] (by kernel_rfl) rfl rfl ⟨hx142_0, (cv_ HB.out hw143_0)⟩ (fun hHeld => ?_); refine with_tabW spec_sortedTexts.tab6 spec_sortedTexts.bits6 (fun HT_ HW_ => ?_)
        generalize wr.drew = w10 at HO_3 HB hx142_0 hx143_0 hHeld ⊢
        refine qp_ 0 13 ?_
        refine qp_ 1 14 ?_
        refine qp_ 2 15 ?_
        refine qp_ 3 16 ?_
        refine qp_ 4 17 ?_
        refine qp_ 5 18 ?_
        refine qp_ 6 19 ?_
        refine qp_ 7 20 ?_
        refine qp_ 9 22 ?_
        refine qp_ 10 23 ?_
        refine qp_ 11 24 ?_
        refine qt_ 8 21 ?_
        refine qt_ 12 25 ?_
        refine qp_ 13 26 ?_
        refine qp_ 14 27 ?_
        refine qd_ ?_
        try go_wp2
        go_roundg k2
        case measure => have := HK1.out; have := HK2.out; omega
        case rel => exact ⟨(wrap64 (x5_2 + 1)), zz9, H', ⟨(zz41 HK1.out HK2.out)⟩, ⟨(zz22 HO_3.out)⟩, ⟨zz23⟩⟩
       ·have c9b0 : (Op.bytesLess ((rdOf ByteArray.empty x3_1 x5_2).toList) ((rdOf ByteArray.empty l0 x4_1).toList)) = false := by simpa using c9
        clear c9
        rcases ie_ H with ⟨c12, H⟩ | ⟨c12, H⟩
        ·exact absurd c12 (by have q_ := of_decide_eq_true c5b0; omega)
        ·have c12b0 : (x5_2 == (x3_1.length : Int)) = false := beq_eq_false_iff_ne.mpr c12
         have c12b1 : (x5_2 != (x3_1.length : Int)) = true := bne_iff_ne.mpr c12
         rcases ie_ H with ⟨c35, H⟩ | ⟨c35, H⟩
         ·have c35b0 : ((rdOf ByteArray.empty x3_1 x5_2).toList == (rdOf ByteArray.empty l0 x4_1).toList) = true := beq_iff_eq.mpr c35
          have c35b1 : ((rdOf ByteArray.empty x3_1 x5_2).toList != (rdOf ByteArray.empty l0 x4_1).toList) = false := bne_eq_false_iff_eq.mpr c35
          clear c35; have H' := zA H; clear H; try go_wp2; replace HO_3 := zA (Kd.R_drew HO_3.out); replace HB := zA zz40
          obtain ⟨Ao37, co37, eo37⟩ := Kd.R_slice HO_3.out
          (first | subst eo37 | (injection eo37 with f1_ f2_ f3_; have f4_ := f1_.symm; have f5_ := f3_.symm; clear f1_ f2_ f3_; subst f4_; subst f5_))
          have p142 : 0 ≤ (x5_2 : Int) := dz_
          have q142 : x5_2 < (x3_1.length : Int) := dz_
          obtain ⟨ad142, e142, hx142_0⟩ := Kd.at_string (Kd.R_reads' HO_3.out).2.2 x5_2 p142 q142
          cases e142
          replace p142 := eq_true p142
          replace q142 := eq_true q142
          have p143 : 0 ≤ (x4_1 : Int) := dz_
          have q143 : x4_1 < (l0.length : Int) := dz_
          obtain ⟨ad143, e143, hx143_0⟩ := Kd.at_string HR0.out x4_1 p143 q143
          have hw143_0 := hx143_0
          cases e143
          replace hx143_0 := cup_ HB.out hx143_0
          replace p143 := eq_true p143
          replace q143 := eq_true q143
          refine start_ (n := 15) (S := fun w' => w'.cell? (ad142.add (x5_2).toNat) = some (.string (rdOf ByteArray.empty x3_1 x5_2)) ∧ w'.cell? (ad143.add (x4_1).toNat) = some (.string (rdOf ByteArray.empty l0 x4_1))) (ds := []) #[ff,ff,ff,ff,ff,ff,ff,ff,ff,ff,ff,ff,ff,ff,ff] (by kernel_rfl) rfl rfl ⟨hx142_0, (cv_ HB.out hw143_0)⟩ (fun hHeld => ?_); refine with_tabW spec_sortedTexts.tab6 spec_sortedTexts.bits6 (fun HT_ HW_ => ?_)
          generalize wr.drew = w36 at HO_3 HB hx142_0 hx143_0 hHeld ⊢
          refine qp_ 0 13 ?_
          refine qp_ 1 14 ?_
          refine qp_ 2 15 ?_
          refine qp_ 3 16 ?_
          refine qp_ 4 17 ?_
          refine qp_ 5 18 ?_
          refine qp_ 6 19 ?_
          refine qp_ 7 20 ?_
          refine qp_ 9 22 ?_
          refine qp_ 10 23 ?_
          refine qp_ 11 24 ?_
          refine qt_ 8 21 ?_
          refine qt_ 12 25 ?_
          refine qp_ 13 26 ?_
          refine qp_ 14 27 ?_
          refine qd_ ?_
          try go_wp2; replace HO_3 := zA (Kd.R_drew HO_3.out); replace HB := zA zz40
          have p168 : 0 ≤ (x5_2 : Int) := dz_
          have q168 : x5_2 < (x3_1.length : Int) := dz_
          obtain ⟨ad168, e168, hx168_0⟩ := Kd.at_string (Kd.R_reads' HO_3.out).2.2 x5_2 p168 q168
          obtain rfl : ad142 = ad168 := (by injection e168)
          replace p168 := eq_true p168
          replace q168 := eq_true q168
          have p169 : 0 ≤ (x4_1 : Int) := dz_
          have q169 : x4_1 < (l0.length : Int) := dz_
          obtain ⟨ad169, e169, hx169_0⟩ := Kd.at_string HR0.out x4_1 p169 q169
          have hw169_0 := hx169_0
          obtain rfl : ad143 = ad169 := (by injection e169)
          replace hx169_0 := cup_ HB.out hx169_0
          replace p169 := eq_true p169
          replace q169 := eq_true q169
          refine start_ (n := 15) (S := fun w' => w'.cell? (ad142.add (x5_2).toNat) = some (.string (rdOf ByteArray.empty x3_1 x5_2)) ∧ w'.cell? (ad143.add (x4_1).toNat) = some (.string (rdOf ByteArray.empty l0 x4_1))) (ds := []) #[ff,ff,ff,ff,ff,ff,ff,ff,ff,ff,ff,ff,ff,ff,ff] (by kernel_rfl) rfl rfl ⟨hx168_0, (cv_ HB.out hw169_0)⟩ (fun hHeld => ?_); refine with_tabW spec_sortedTexts.tab8 spec_sortedTexts.bits8 (fun HT_ HW_ => ?_)
          generalize w36.drew = w38 at HO_3 HB hx168_0 hx169_0 hHeld ⊢
          refine qp_ 0 30 ?_
          refine qp_ 1 31 ?_
          refine qp_ 2 32 ?_
          refine qp_ 3 33 ?_
          refine qp_ 4 34 ?_
          refine qp_ 5 35 ?_
          refine qp_ 6 36 ?_
          refine qp_ 7 37 ?_
          refine qp_ 9 39 ?_
          refine qp_ 10 40 ?_
          refine qp_ 11 41 ?_
          refine qt_ 8 38 ?_
          refine qt_ 12 42 ?_
          refine qp_ 13 43 ?_
          refine qp_ 14 44 ?_
          refine qd_ ?_
          try go_wp2
          go_roundg k2
          case measure => have := HK1.out; have := HK2.out; omega
          case rel => exact ⟨(x3_1), (wrap64 (x4_1 + 1)), zz9, H', ⟨(zz41 HK1.out HK2.out)⟩, ⟨(zz22 HO_3.out)⟩, ⟨zz23⟩⟩
         ·have c35b0 : ((rdOf ByteArray.empty x3_1 x5_2).toList == (rdOf ByteArray.empty l0 x4_1).toList) = false := beq_eq_false_iff_ne.mpr c35
          have c35b1 : ((rdOf ByteArray.empty x3_1 x5_2).toList != (rdOf ByteArray.empty l0 x4_1).toList) = true := bne_iff_ne.mpr c35
          obtain ⟨y170, hy170⟩ : ∃ y_ : List ByteArray, y_ = (([] : List ByteArray)) := ⟨_, rfl⟩
          replace H := zB hy170 H
          have Ny170 := zA hy170; clear hy170; have c39b0 := eq_true (of_decide_eq_true zz3 : 0 ≤ x5_2)
          obtain ⟨c40, H⟩ := in_ H
          have c40b0 := eq_true c40
          have c40b1 : decide (x5_2 ≤ (x3_1.length : Int)) = true := decide_eq_true c40
          clear c40
          obtain ⟨y173, hy173⟩ : ∃ y_ : List ByteArray, y_ = (x3_1.take (x5_2 : Int).toNat) := ⟨_, rfl⟩
          replace H := zB hy173 H
          have Ny173 := zA hy173; clear hy173
          obtain ⟨c41, H⟩ := in_ H
          have LMc41 := zA c41; clear c41
          obtain ⟨y177, hy177⟩ : ∃ y_ : List ByteArray, y_ = (y170 ++ y173) := ⟨_, rfl⟩
          replace H := zB hy177 H
          have Ny177 := zA hy177; clear hy177
          obtain ⟨y181, hy181⟩ : ∃ y_ : List ByteArray, y_ = (([rdOf ByteArray.empty l0 x4_1] : List ByteArray)) := ⟨_, rfl⟩
          replace H := zB hy181 H
          have Ny181 := zA hy181; clear hy181
          obtain ⟨c42, H⟩ := in_ H
          have LMc42 := zA c42; clear c42
          obtain ⟨y184, hy184⟩ : ∃ y_ : List ByteArray, y_ = (y177 ++ y181) := ⟨_, rfl⟩
          replace H := zB hy184 H
          have Ny184 := zA hy184; clear hy184; have c43b0 := eq_true (of_decide_eq_true zz3 : 0 ≤ x5_2); have c44b0 := eq_true (of_decide_eq_true zz3 : x5_2 ≤ (x3_1.length : Int))
          obtain ⟨y187, hy187⟩ : ∃ y_ : List ByteArray, y_ = (x3_1.drop (x5_2 : Int).toNat) := ⟨_, rfl⟩
          replace H := zB hy187 H
          have Ny187 := zA hy187; clear hy187
          obtain ⟨c45, H⟩ := in_ H
          have LMc45 := zA c45; clear c45
          obtain ⟨y191, hy191⟩ : ∃ y_ : List ByteArray, y_ = (y184 ++ y187) := ⟨_, rfl⟩
          replace H : (spec_sortedTexts.l0 k2 l0 y191 (wrap64 (x4_1 + 1))) = some r := (zz24 hy191)
          have Ny191 := zA hy191; clear hy191; have H' := zA H; clear H; try go_wp2; replace HO_3 := zA (Kd.R_drew HO_3.out); replace HB := zA zz40
          obtain ⟨Ao47, co47, eo47⟩ := Kd.R_slice HO_3.out
          (first | subst eo47 | (injection eo47 with f1_ f2_ f3_; have f4_ := f1_.symm; have f5_ := f3_.symm; clear f1_ f2_ f3_; subst f4_; subst f5_))
          have p142 : 0 ≤ (x5_2 : Int) := dz_
          have q142 : x5_2 < (x3_1.length : Int) := dz_
          obtain ⟨ad142, e142, hx142_0⟩ := Kd.at_string (Kd.R_reads' HO_3.out).2.2 x5_2 p142 q142
          cases e142
          replace p142 := eq_true p142
          replace q142 := eq_true q142
          have p143 : 0 ≤ (x4_1 : Int) := dz_
          have q143 : x4_1 < (l0.length : Int) := dz_
          obtain ⟨ad143, e143, hx143_0⟩ := Kd.at_string HR0.out x4_1 p143 q143
          have hw143_0 := hx143_0
          cases e143
          replace hx143_0 := cup_ HB.out hx143_0
          replace p143 := eq_true p143
          replace q143 := eq_true q143
          refine start_ (n := 15) (S := fun w' => w'.cell? (ad142.add (x5_2).toNat) = some (.string (rdOf ByteArray.empty x3_1 x5_2)) ∧ w'.cell? (ad143.add (x4_1).toNat) = some (.string (rdOf ByteArray.empty l0 x4_1))) (ds := []) #[ff,ff,ff,ff,ff,ff,ff,ff,ff,ff,ff,ff,ff,ff,ff] (by kernel_rfl) rfl rfl ⟨hx142_0, (cv_ HB.out hw143_0)⟩ (fun hHeld => ?_); refine with_tabW spec_sortedTexts.tab6 spec_sortedTexts.bits6 (fun HT_ HW_ => ?_)
          generalize wr.drew = w46 at HO_3 HB hx142_0 hx143_0 hHeld ⊢
          refine qp_ 0 13 ?_
          refine qp_ 1 14 ?_
          refine qp_ 2 15 ?_
          refine qp_ 3 16 ?_
          refine qp_ 4 17 ?_
          refine qp_ 5 18 ?_
          refine qp_ 6 19 ?_
          refine qp_ 7 20 ?_
          refine qp_ 9 22 ?_
          refine qp_ 10 23 ?_
          refine qp_ 11 24 ?_
          refine qt_ 8 21 ?_
          refine qt_ 12 25 ?_
          refine qp_ 13 26 ?_
          refine qp_ 14 27 ?_
          refine qd_ ?_
          try go_wp2; replace HO_3 := zA (Kd.R_drew HO_3.out); replace HB := zA zz40
          have p168 : 0 ≤ (x5_2 : Int) := dz_
          have q168 : x5_2 < (x3_1.length : Int) := dz_
          obtain ⟨ad168, e168, hx168_0⟩ := Kd.at_string (Kd.R_reads' HO_3.out).2.2 x5_2 p168 q168
          obtain rfl : ad142 = ad168 := (by injection e168)
          replace p168 := eq_true p168
          replace q168 := eq_true q168
          have p169 : 0 ≤ (x4_1 : Int) := dz_
          have q169 : x4_1 < (l0.length : Int) := dz_
          obtain ⟨ad169, e169, hx169_0⟩ := Kd.at_string HR0.out x4_1 p169 q169
          have hw169_0 := hx169_0
          obtain rfl : ad143 = ad169 := (by injection e169)
          replace hx169_0 := cup_ HB.out hx169_0
          replace p169 := eq_true p169
          replace q169 := eq_true q169
          refine start_ (n := 15) (S := fun w' => w'.cell? (ad142.add (x5_2).toNat) = some (.string (rdOf ByteArray.empty x3_1 x5_2)) ∧ w'.cell? (ad143.add (x4_1).toNat) = some (.string (rdOf ByteArray.empty l0 x4_1))) (ds := []) #[ff,ff,ff,ff,ff,ff,ff,ff,ff,ff,ff,ff,ff,ff,ff] (by kernel_rfl) rfl rfl ⟨hx168_0, (cv_ HB.out hw169_0)⟩ (fun hHeld => ?_); refine with_tabW spec_sortedTexts.tab8 spec_sortedTexts.bits8 (fun HT_ HW_ => ?_)
          generalize w46.drew = w48 at HO_3 HB hx168_0 hx169_0 hHeld ⊢
          refine qp_ 0 30 ?_
          refine qp_ 1 31 ?_
          refine qp_ 2 32 ?_
          refine qp_ 3 33 ?_
          refine qp_ 4 34 ?_
          refine qp_ 5 35 ?_
          refine qp_ 6 36 ?_
          refine qp_ 7 37 ?_
          refine qp_ 9 39 ?_
          refine qp_ 10 40 ?_
          refine qp_ 11 41 ?_
          refine qt_ 8 38 ?_
          refine qt_ 12 42 ?_
          refine qp_ 13 43 ?_
          refine qp_ 14 44 ?_
          refine qd_ ?_
          try go_wp2; replace HO_3 := zA (Kd.R_drew HO_3.out); replace HB := zA zz40
          have q50 : (x5_2 : Int) ≤ ((x3_1.length : Int) : Int) := dz_
          obtain ⟨i050, hi050, _, hsz50, _⟩ := info_parts info9
          have hroom50 : x3_1.length ≤ co47 := (Kd.R_reads' HO_3.out).2.1
          have hC50 : Kd.C Kd.string _ (some ad142) x3_1.length x3_1 := (Kd.R_reads' HO_3.out).2.2
          have hcut50 := cut_to (P := Try.prog) 31 9 .i64 Try.underlying31 hi050 (some ad142) x3_1.length co47 x5_2 (of_decide_eq_true zz3) q50 hroom50; have hr50 := Kd.C_take (m := (x5_2 : Int).toNat) hC50 (by omega)
          have hy50 : y173.length = (x5_2 : Int).toNat := (zz42 Ny173.out)
          rw [← Ny173.out] at hr50
          rw [← hy50] at hcut50
          have HR176 := zA hr50
          have HC176 := zA (show y173.length ≤ co47 from by omega)
          clear hr50 hC50 hroom50 hi050 hsz50; have KY50 := zA hy50; clear hy50
          have KL50 := zA (show (x5_2 : Int).toNat ≤ x3_1.length from by omega)
          replace q50 := eq_true q50
          have p180 : 0 ≤ (x4_1 : Int) := dz_
          have q180 : x4_1 < (l0.length : Int) := dz_
          obtain ⟨ad180, e180, hx180_0⟩ := Kd.at_string HR0.out x4_1 p180 q180
          have hw180_0 := hx180_0
          obtain rfl : ad143 = ad180 := (by injection e180)
          replace hx180_0 := cup_ HB.out hx180_0
          replace p180 := eq_true p180
          replace q180 := eq_true q180
          have q51 : (x5_2 : Int) ≤ ((x3_1.length : Int) : Int) := dz_
          obtain ⟨i051, hi051, _, hsz51, _⟩ := info_parts info9
          have hroom51 : x3_1.length ≤ co47 := (Kd.R_reads' HO_3.out).2.1
          have hC51 : Kd.C Kd.string _ (some ad142) x3_1.length x3_1 := (Kd.R_reads' HO_3.out).2.2
          have q051 : (0 : Int) ≤ (x5_2 : Int) := dz_
          have hcut51 := cut_from (P := Try.prog) 31 9 .i64 Try.underlying31 hi051 1 hsz51 (some ad142) x3_1.length co47 x5_2 q051 q51; have hr51 := Kd.C_drop (m := (x5_2 : Int).toNat) (c := co47) hC51 (by omega) hroom51
          obtain ⟨A51, hA51⟩ : ∃ A1, A1 = (if co47 = (x5_2 : Int).toNat then (some ad142) else ((some ad142) : Option Addr).map (·.add ((x5_2 : Int).toNat * 1))) := ⟨_, rfl⟩
          obtain ⟨c51, hc51⟩ : ∃ c1, c1 = co47 - (x5_2 : Int).toNat := ⟨_, rfl⟩
          have hy51 : y187.length = x3_1.length - (x5_2 : Int).toNat := (by rw [Ny187.out, List.length_drop] <;> omega)
          rw [show (x3_1).drop (x5_2 : Int).toNat = y187 from Ny187.out.symm] at hr51
          replace hr51 : Kd.C Kd.string _ A51 y187.length y187 := (by rw [hA51]; exact hr51)
          rw [← hy51, ← hA51, ← hc51] at hcut51
          have HR190 := zA hr51
          have HC190 := zA (show y187.length ≤ c51 from by rw [hy51, hc51]; exact Nat.sub_le_sub_right hroom51 _)
          clear hr51 hC51 hroom51 hi051 hsz51 hc51; have KY51 := zA hy51; have KA51 := zA hA51; clear hy51 hA51
          have KL51 := zA (show (x5_2 : Int).toNat ≤ x3_1.length from by omega)
          replace q51 := eq_true q51
          refine start_ (n := 16) (S := fun w' => w'.cell? (ad143.add (x4_1).toNat) = some (.string (rdOf ByteArray.empty l0 x4_1))) (ds := []) #[ff,ff,ff,ff,ff,ff,ff,ff,ff,ff,ff,ff,ff,ff,ff,ff] (by kernel_rfl) rfl rfl ((cv_ HB.out hw180_0)) (fun hHeld => ?_); refine with_tabW spec_sortedTexts.tab9 spec_sortedTexts.bits9 (fun HT_ HW_ => ?_)
          generalize w48.drew = w49 at HO_3 HB HR176 HR190 hx180_0 hHeld ⊢
          refine qp_ 1 46 ?_
          refine qp_ 2 47 ?_
          refine qp_ 3 48 ?_
          refine qp_ 5 50 ?_
          refine qp_ 6 51 ?_
          refine qp_ 7 52 ?_
          refine qp_ 11 56 ?_
          refine qp_ 12 57 ?_
          refine qp_ 13 58 ?_
          refine qt_ 8 53 ?_
          refine join_ (σ := Value × Value × Value) 3 #[tt,tt,tt,tt,tt,tt,tt,tt,tt,tt,ff,tt,tt,tt,ff,ff] (fun s_ => [(45, s_.1), (49, s_.2.1), (54, s_.2.2)]) (fun s_ w' => (w'.cell? (ad143.add (x4_1).toNat) = some (.string (rdOf ByteArray.empty l0 x4_1))) ∧ (Kd.R Kd.string 9 w' w.heap.size (fun k_ => some k_ ≠ (s_.2.2 : Value).ownBlock ∧ some k_ ≠ (.slice (some ad142) x3_1.length co47 : Value).ownBlock) s_.2.1 y177) ∧ (Kd.R Kd.string 9 w' w.heap.size (fun k_ => some k_ ≠ (s_.2.1 : Value).ownBlock ∧ some k_ ≠ (.slice (some ad142) x3_1.length co47 : Value).ownBlock) s_.2.2 y181) ∧ (Kd.R Kd.string 9 w' w.heap.size (fun k_ => some k_ ≠ (s_.2.1 : Value).ownBlock ∧ some k_ ≠ (s_.2.2 : Value).ownBlock) (.slice (some ad142) x3_1.length co47) x3_1) ∧ (Below w.heap.size w w')) ?_ ?_
          rotate_left
          ·intro hCont
           refine two_ (i := 0) (j := 9) (Ni := some 45) (Nj := some 54) #[tt,tt,tt,tt,ff,tt,tt,tt,tt,ff,ff,tt,tt,tt,ff,ff] #[ff,tt,tt,tt,ff,tt,tt,tt,tt,tt,ff,tt,tt,tt,ff,ff] rfl rfl rfl rfl (two_of HT_.out (by kernel_rfl)) (by decide) (by decide) (fun K hK => ?_) (fun K hK => ?_)
           ·skip
            refine Kd.R_lit_step Kd.string _ 9 ?hg (N := 45) ?hd (xs := ([] : List ByteArray)) (inner := []) (ok := fun _ => True) (okp := fun _ => True) ?hr ?hp (fun _ hk => hk) trivial (Below.refl _ _) (Nat.le_refl _) (by simp) ?_; (case hd => rfl); (case hg => rfl); (case hr => exact zz32); (case hp => exact (Reps.none _ _))
            intro v171 w52 ho53 hb hg_ hnew_
            clear hg_ hnew_
            replace ho53 := ny_ Ny170.out ho53
            have HO172 := zA (zz43 ho53 HO_3.out)
            replace HO_3 := zA (zz44 HO_3.out ho53)
            replace HR176 := zA (zz45 HR176.out)
            replace HR190 := zA (zz45 HR190.out)
            replace HB := zA zz4
            clear hb ho53
            refine hK.out _ _ ((cv_ HB.out hw180_0)) (fun hHeld => ?_)
            clear hK K
            refine qn_ 45 ?_
            refine two_ (i := 4) (j := 9) (Ni := some 49) (Nj := some 54) #[tt,tt,tt,tt,tt,tt,tt,tt,tt,ff,ff,tt,tt,tt,ff,ff] #[tt,tt,tt,tt,ff,tt,tt,tt,tt,tt,ff,tt,tt,tt,ff,ff] rfl rfl rfl rfl (two_of HT_.out (by kernel_rfl)) (by decide) (by decide) (fun K hK => ?_) (fun K hK => ?_)
            ·skip
             refine Kd.R_append_rows_step Kd.string (w0 := w) w.heap.size (by rfl) (.tmp 45) (.tmp 48) 31 9 (.string ⟨#[]⟩) 16 rfl Try.underlying31 info9 rfl (by decide) (by omega) v171 y170 y173 _ _ _ (fun k_ => some k_ ≠ (.slice (some ad142) x3_1.length co47 : Value).ownBlock) (fun _ => False) rfl rfl ?aO ?aR (fun _ _ h => h) (fun _ h => h.elim) ?aF ?aB ?aS ?aL ?_
             (case aR => exact (zz46 HR176.out))
             (case aB => exact zz25)
             (case aF => exact (zz47 HO_3.out))
             (case aO => exact (zz48 HO172.out))
             (case aS => exact zz27)
             (case aL => have := LMc41.out; omega)
             intro v178 w54 ho hb hg hat
             rw [← Ny177.out] at ho
             replace HB := zA (hb)
             replace HR176 := zA ((show Kd.C Kd.string w54 (some ad142) y173.length y173 from by rw [Ny173.out]; exact Kd.C_take (m := (x5_2 : Int).toNat) ((Kd.R_reads' (Kd.R_after (ok := (fun _ => True)) (zz22 HO_3.out) hg hat)).2.2) KL50.out))
             replace HR190 := zA ((show Kd.C Kd.string w54 A51 y187.length y187 from by rw [Ny187.out, KA51.out]; exact Kd.C_drop (m := (x5_2 : Int).toNat) (c := co47) ((Kd.R_reads' (Kd.R_after (ok := (fun _ => True)) (zz22 HO_3.out) hg hat)).2.2) KL51.out ((Kd.R_reads' (Kd.R_after (ok := (fun _ => True)) (zz22 HO_3.out) hg hat)).2.1)))
             replace HO_3 := zA (zz49 HO_3.out)
             have HO179 := zA (ho)
             clear HO172 ho hb hg hat
             refine hK.out _ _ ((cv_ HB.out hw180_0)) (fun hHeld => ?_)
             clear hK K
             refine qn_ 49 ?_
             refine qo_ 9 54 (fun K hK => ?_)
             refine Kd.R_lit_step Kd.string _ 9 ?hg (N := 54) ?hd (xs := ([rdOf ByteArray.empty l0 x4_1] : List ByteArray)) (inner := [.string (rdOf ByteArray.empty l0 x4_1)]) (ok := fun _ => True) (okp := fun _ => True) ?hr ?hp (fun _ hk => hk) trivial (Below.refl _ _) (Nat.le_refl _) (by simp) ?_; (case hd => rfl); (case hg => rfl); (case hr => exact zz32); (case hp => exact zz50)
             intro v182 w55 ho56 hb hg_ hnew_
             clear hg_ hnew_
             replace ho56 := ny_ Ny181.out ho56
             have HO183 := zA (zz51 ho56 HO_3.out HO179.out)
             replace HO_3 := zA (zz44 HO_3.out ho56)
             replace HO179 := zA (zz44 HO179.out ho56)
             replace HR176 := zA (zz45 HR176.out)
             replace HR190 := zA (zz45 HR190.out)
             replace HB := zA zz4
             clear hb ho56
             refine hK.out _ _ ((cv_ HB.out hw180_0)) (fun hHeld => ?_)
             clear hK K
             refine qn_ 54 ?_
             exact norm_ zz52 (hCont (v171, v178, v182) _ ⟨hHeld, (zz53 HO179.out), (zz54 HO183.out), (zz55 HO_3.out), zz56⟩)
            ·skip
             refine Kd.R_lit_step Kd.string _ 9 ?hg (N := 54) ?hd (xs := ([rdOf ByteArray.empty l0 x4_1] : List ByteArray)) (inner := [.string (rdOf ByteArray.empty l0 x4_1)]) (ok := fun _ => True) (okp := fun _ => True) ?hr ?hp (fun _ hk => hk) trivial (Below.refl _ _) (Nat.le_refl _) (by simp) ?_; (case hd => rfl); (case hg => rfl); (case hr => exact zz32); (case hp => exact zz50)
             intro v182 w54 ho55 hb hg_ hnew_
             clear hg_ hnew_
             replace ho55 := ny_ Ny181.out ho55
             have HO183 := zA (zz51 ho55 HO_3.out HO172.out)
             replace HO_3 := zA (zz44 HO_3.out ho55)
             replace HO172 := zA (zz44 HO172.out ho55)
             replace HR176 := zA (zz45 HR176.out)
             replace HR190 := zA (zz45 HR190.out)
             replace HB := zA zz4
             clear hb ho55
             refine hK.out _ _ ((cv_ HB.out hw180_0)) (fun hHeld => ?_)
             clear hK K
             refine qn_ 54 ?_
             refine qo_ 4 49 (fun K hK => ?_)
             refine Kd.R_append_rows_step Kd.string (w0 := w) w.heap.size (by rfl) (.tmp 45) (.tmp 48) 31 9 (.string ⟨#[]⟩) 16 rfl Try.underlying31 info9 rfl (by decide) (by omega) v171 y170 y173 _ _ _ (fun k_ => some k_ ≠ (.slice (some ad142) x3_1.length co47 : Value).ownBlock ∧ some k_ ≠ (v182 : Value).ownBlock) (fun _ => False) rfl rfl ?aO ?aR (fun _ _ h => h) (fun _ h => h.elim) ?aF ?aB ?aS ?aL ?_
             (case aR => exact (zz46 HR176.out))
             (case aB => exact zz25)
             (case aF => exact (zz57 HO_3.out HO183.out))
             (case aO => exact (zz58 HO172.out))
             (case aS => exact zz27)
             (case aL => have := LMc41.out; omega)
             intro v178 w56 ho hb hg hat
             rw [← Ny177.out] at ho
             replace HO183 := zA (Kd.R_after (ok := (fun k_ => some k_ ≠ (.slice (some ad142) x3_1.length co47 : Value).ownBlock)) (zz55 HO183.out) hg hat)
             replace HB := zA (hb)
             replace HR176 := zA ((show Kd.C Kd.string w56 (some ad142) y173.length y173 from by rw [Ny173.out]; exact Kd.C_take (m := (x5_2 : Int).toNat) ((Kd.R_reads' (Kd.R_after (ok := (fun k_ => some k_ ≠ (v182 : Value).ownBlock)) (zz54 HO_3.out) hg hat)).2.2) KL50.out))
             replace HR190 := zA ((show Kd.C Kd.string w56 A51 y187.length y187 from by rw [Ny187.out, KA51.out]; exact Kd.C_drop (m := (x5_2 : Int).toNat) (c := co47) ((Kd.R_reads' (Kd.R_after (ok := (fun k_ => some k_ ≠ (v182 : Value).ownBlock)) (zz54 HO_3.out) hg hat)).2.2) KL51.out ((Kd.R_reads' (Kd.R_after (ok := (fun k_ => some k_ ≠ (v182 : Value).ownBlock)) (zz54 HO_3.out) hg hat)).2.1)))
             replace HO_3 := zA (Kd.R_after (ok := (fun k_ => some k_ ≠ (v182 : Value).ownBlock)) (zz54 HO_3.out) hg hat)
             have HO179 := zA (ho)
             clear HO172 ho hb hg hat
             refine hK.out _ _ ((cv_ HB.out hw180_0)) (fun hHeld => ?_)
             clear hK K
             refine qn_ 49 ?_
             exact norm_ zz52 (hCont (v171, v178, v182) _ ⟨hHeld, (zz53 HO179.out), (zz53 HO183.out), (zz53 HO_3.out), zz56⟩)
           ·skip
            refine Kd.R_lit_step Kd.string _ 9 ?hg (N := 54) ?hd (xs := ([rdOf ByteArray.empty l0 x4_1] : List ByteArray)) (inner := [.string (rdOf ByteArray.empty l0 x4_1)]) (ok := fun _ => True) (okp := fun _ => True) ?hr ?hp (fun _ hk => hk) trivial (Below.refl _ _) (Nat.le_refl _) (by simp) ?_; (case hd => rfl); (case hg => rfl); (case hr => exact zz32); (case hp => exact zz50)
            intro v182 w52 ho53 hb hg_ hnew_
            clear hg_ hnew_
            replace ho53 := ny_ Ny181.out ho53
            have HO183 := zA (zz43 ho53 HO_3.out)
            replace HO_3 := zA (zz44 HO_3.out ho53)
            replace HR176 := zA (zz45 HR176.out)
            replace HR190 := zA (zz45 HR190.out)
            replace HB := zA zz4
            clear hb ho53
            refine hK.out _ _ ((cv_ HB.out hw180_0)) (fun hHeld => ?_)
            clear hK K
            refine qn_ 54 ?_
            refine qo_ 0 45 (fun K hK => ?_)
            refine Kd.R_lit_step Kd.string _ 9 ?hg (N := 45) ?hd (xs := ([] : List ByteArray)) (inner := []) (ok := fun _ => True) (okp := fun _ => True) ?hr ?hp (fun _ hk => hk) trivial (Below.refl _ _) (Nat.le_refl _) (by simp) ?_; (case hd => rfl); (case hg => rfl); (case hr => exact zz32); (case hp => exact (Reps.none _ _))
            intro v171 w54 ho55 hb hg_ hnew_
            clear hg_ hnew_
            replace ho55 := ny_ Ny170.out ho55
            have HO172 := zA (zz51 ho55 HO_3.out HO183.out)
            replace HO_3 := zA (zz44 HO_3.out ho55)
            replace HO183 := zA (zz44 HO183.out ho55)
            replace HR176 := zA (zz45 HR176.out)
            replace HR190 := zA (zz45 HR190.out)
            replace HB := zA zz4
            clear hb ho55
            refine hK.out _ _ ((cv_ HB.out hw180_0)) (fun hHeld => ?_)
            clear hK K
            refine qn_ 45 ?_
            refine qo_ 4 49 (fun K hK => ?_)
            refine Kd.R_append_rows_step Kd.string (w0 := w) w.heap.size (by rfl) (.tmp 45) (.tmp 48) 31 9 (.string ⟨#[]⟩) 16 rfl Try.underlying31 info9 rfl (by decide) (by omega) v171 y170 y173 _ _ _ (fun k_ => some k_ ≠ (.slice (some ad142) x3_1.length co47 : Value).ownBlock ∧ some k_ ≠ (v182 : Value).ownBlock) (fun _ => False) rfl rfl ?aO ?aR (fun _ _ h => h) (fun _ h => h.elim) ?aF ?aB ?aS ?aL ?_
            (case aR => exact (zz46 HR176.out))
            (case aB => exact zz25)
            (case aF => exact (zz57 HO_3.out HO183.out))
            (case aO => exact (zz58 HO172.out))
            (case aS => exact zz27)
            (case aL => have := LMc41.out; omega)
            intro v178 w56 ho hb hg hat
            rw [← Ny177.out] at ho
            replace HO183 := zA (Kd.R_after (ok := (fun k_ => some k_ ≠ (.slice (some ad142) x3_1.length co47 : Value).ownBlock)) (zz55 HO183.out) hg hat)
            replace HB := zA (hb)
            replace HR176 := zA ((show Kd.C Kd.string w56 (some ad142) y173.length y173 from by rw [Ny173.out]; exact Kd.C_take (m := (x5_2 : Int).toNat) ((Kd.R_reads' (Kd.R_after (ok := (fun k_ => some k_ ≠ (v182 : Value).ownBlock)) (zz55 HO_3.out) hg hat)).2.2) KL50.out))
            replace HR190 := zA ((show Kd.C Kd.string w56 A51 y187.length y187 from by rw [Ny187.out, KA51.out]; exact Kd.C_drop (m := (x5_2 : Int).toNat) (c := co47) ((Kd.R_reads' (Kd.R_after (ok := (fun k_ => some k_ ≠ (v182 : Value).ownBlock)) (zz55 HO_3.out) hg hat)).2.2) KL51.out ((Kd.R_reads' (Kd.R_after (ok := (fun k_ => some k_ ≠ (v182 : Value).ownBlock)) (zz55 HO_3.out) hg hat)).2.1)))
            replace HO_3 := zA (Kd.R_after (ok := (fun k_ => some k_ ≠ (v182 : Value).ownBlock)) (zz55 HO_3.out) hg hat)
            have HO179 := zA (ho)
            clear HO172 ho hb hg hat
            refine hK.out _ _ ((cv_ HB.out hw180_0)) (fun hHeld => ?_)
            clear hK K
            refine qn_ 49 ?_
            exact norm_ zz52 (hCont (v171, v178, v182) _ ⟨hHeld, (zz53 HO179.out), (zz53 HO183.out), (zz53 HO_3.out), zz56⟩)
          rintro ⟨v171, v178, v182⟩ w57 ⟨hS_, h0_, h1_, h2_, h3_⟩
          have n0_ : Aside0 (Kd.R Kd.string 9 w57 w.heap.size (fun k_ => some k_ ≠ (v182 : Value).ownBlock ∧ some k_ ≠ (.slice (some ad142) x3_1.length co47 : Value).ownBlock) v178 y177) := ⟨h0_⟩
          have n1_ : Aside0 (Kd.R Kd.string 9 w57 w.heap.size (fun k_ => some k_ ≠ (v178 : Value).ownBlock ∧ some k_ ≠ (.slice (some ad142) x3_1.length co47 : Value).ownBlock) v182 y181) := ⟨h1_⟩
          have n2_ : Aside0 (Kd.R Kd.string 9 w57 w.heap.size (fun k_ => some k_ ≠ (v178 : Value).ownBlock ∧ some k_ ≠ (v182 : Value).ownBlock) (.slice (some ad142) x3_1.length co47) x3_1) := ⟨h2_⟩
          have n3_ : Aside0 (Below w.heap.size w w57) := ⟨h3_⟩
          clear HO_3 HB h0_ h1_ h2_ h3_; have HO179 := n0_; have HO183 := n1_; have HO_3 := n2_; have HB := n3_; clear n0_ n1_ n2_ n3_
          have hHeld : w57.cell? (ad143.add (x4_1).toNat) = some (.string (rdOf ByteArray.empty l0 x4_1)) := hS_
          obtain ⟨Ao59, co59, eo59⟩ := Kd.R_slice HO183.out
          (first | subst eo59 | (injection eo59 with f1_ f2_ f3_; have f4_ := f1_.symm; have f5_ := f3_.symm; clear f1_ f2_ f3_; subst f4_; subst f5_))
          refine norm_ (a' := ?_) ?_ ?_
          rotate_left
          ·simp only [putAll, Act.put, List.setIfInBounds_toArray, List.set_cons_zero, List.set_cons_succ]
           rfl
          refine qo_ 10 55 (fun K hK => ?_)
          refine Kd.R_append_rows_step Kd.string (w0 := w) w.heap.size (by rfl) (.tmp 49) (.tmp 54) 31 9 (.string ⟨#[]⟩) 16 rfl Try.underlying31 info9 rfl (by decide) (by omega) v178 y177 y181 _ _ _ (fun k_ => some k_ ≠ (.slice (some ad142) x3_1.length co47 : Value).ownBlock ∧ some k_ ≠ (.slice Ao59 y181.length co59 : Value).ownBlock) (fun _ => False) rfl rfl ?aO ?aR (fun _ _ h => h) (fun _ h => h.elim) ?aF ?aB ?aS ?aL ?_
          (case aR => exact (zz20 HO183.out))
          (case aB => exact zz25)
          (case aF => exact (zz57 HO_3.out HO183.out))
          (case aO => exact (zz53 HO179.out))
          (case aS => exact zz27)
          (case aL => have := LMc42.out; omega)
          intro v185 w58 ho hb hg hat
          rw [← Ny184.out] at ho
          replace HO_3 := zA (Kd.R_after (ok := (fun k_ => some k_ ≠ (.slice Ao59 y181.length co59 : Value).ownBlock)) (zz53 HO_3.out) hg hat)
          replace HO183 := zA (Kd.R_after (ok := (fun k_ => some k_ ≠ (.slice (some ad142) x3_1.length co47 : Value).ownBlock)) (zz53 HO183.out) hg hat)
          replace HB := zA (hb)
          have HO186 := zA (ho)
          clear HO179 ho hb hg hat
          refine hK.out _ _ ((cv_ HB.out hw180_0)) (fun hHeld => ?_)
          clear hK K
          refine qn_ 55 ?_
          refine qo_ 14 59 (fun K hK => ?_)
          refine Kd.R_append_rows_step Kd.string (w0 := w) w.heap.size (by rfl) (.tmp 55) (.tmp 58) 31 9 (.string ⟨#[]⟩) 16 rfl Try.underlying31 info9 rfl (by decide) (by omega) v185 y184 y187 _ _ _ (fun k_ => some k_ ≠ (.slice (some ad142) x3_1.length co47 : Value).ownBlock ∧ some k_ ≠ (.slice Ao59 y181.length co59 : Value).ownBlock) (fun _ => False) rfl rfl ?aO ?aR (fun _ _ h => h) (fun _ h => h.elim) ?aF ?aB ?aS ?aL ?_
          (case aR => rw [Ny187.out, KA51.out]; exact Kd.C_drop (m := (x5_2 : Int).toNat) (c := co47) ((Kd.R_reads' (HO_3.out)).2.2) KL51.out ((Kd.R_reads' (HO_3.out)).2.1))
          (case aB => exact zz25)
          (case aF => exact (zz57 HO_3.out HO183.out))
          (case aO => exact (zz26 HO186.out))
          (case aS => exact zz27)
          (case aL => have := LMc45.out; omega)
          intro v192 w60 ho hb hg hat
          rw [← Ny191.out] at ho
          replace HO_3 := zA (Kd.R_after (ok := (fun k_ => some k_ ≠ (.slice Ao59 y181.length co59 : Value).ownBlock)) (zz22 HO_3.out) hg hat)
          replace HO183 := zA (Kd.R_after (ok := (fun k_ => some k_ ≠ (.slice (some ad142) x3_1.length co47 : Value).ownBlock)) (zz22 HO183.out) hg hat)
          replace HB := zA (hb)
          have HO193 := zA (ho)
          clear HO186 ho hb hg hat
          refine hK.out _ _ ((cv_ HB.out hw180_0)) (fun hHeld => ?_)
          clear hK K
          refine qn_ 59 ?_
          refine qp_ 15 3 ?_
          refine qd_ ?_
          try go_wp2
          go_roundg k2
          case measure => have := HK1.out; have := HK2.out; omega
          case rel => exact ⟨(y191), (wrap64 (x4_1 + 1)), zz9, H', ⟨(zz41 HK1.out HK2.out)⟩, ⟨(zz59 HO193.out)⟩, ⟨zz23⟩⟩
      ·rcases ie_ H with ⟨c61, H⟩ | ⟨c61, H⟩
       ·have c61b0 : (x5_2 == (x3_1.length : Int)) = true := beq_iff_eq.mpr c61
        have c61b1 : (x5_2 != (x3_1.length : Int)) = false := bne_eq_false_iff_eq.mpr c61
        clear c61
        obtain ⟨y194, hy194⟩ : ∃ y_ : List ByteArray, y_ = (([] : List ByteArray)) := ⟨_, rfl⟩
        replace H := zB hy194 H
        have Ny194 := zA hy194; clear hy194
        obtain ⟨c62, H⟩ := in_ H
        have c62b0 := eq_true c62
        have c62b1 : decide (0 ≤ x5_2) = true := decide_eq_true c62
        clear c62
        obtain ⟨c63, H⟩ := in_ H
        have c63b0 := eq_true c63
        have c63b1 : decide (x5_2 ≤ (x3_1.length : Int)) = true := decide_eq_true c63
        clear c63
        obtain ⟨y197, hy197⟩ : ∃ y_ : List ByteArray, y_ = (x3_1.take (x5_2 : Int).toNat) := ⟨_, rfl⟩
        replace H := zB hy197 H
        have Ny197 := zA hy197; clear hy197
        obtain ⟨c64, H⟩ := in_ H
        have LMc64 := zA c64; clear c64
        obtain ⟨y201, hy201⟩ : ∃ y_ : List ByteArray, y_ = (y194 ++ y197) := ⟨_, rfl⟩
        replace H := zB hy201 H
        have Ny201 := zA hy201; clear hy201
        obtain ⟨c65b0, H⟩ := it_ H
        obtain ⟨c66b0, H⟩ := it_ H
        obtain ⟨y205, hy205⟩ : ∃ y_ : List ByteArray, y_ = (([rdOf ByteArray.empty l0 x4_1] : List ByteArray)) := ⟨_, rfl⟩
        replace H := zB hy205 H
        have Ny205 := zA hy205; clear hy205
        obtain ⟨c67, H⟩ := in_ H
        have LMc67 := zA c67; clear c67
        obtain ⟨y208, hy208⟩ : ∃ y_ : List ByteArray, y_ = (y201 ++ y205) := ⟨_, rfl⟩
        replace H := zB hy208 H
        have Ny208 := zA hy208; clear hy208; have c68b0 := eq_true (of_decide_eq_true zz3 : 0 ≤ x5_2); have c69b0 := eq_true (of_decide_eq_true zz3 : x5_2 ≤ (x3_1.length : Int))
        obtain ⟨y211, hy211⟩ : ∃ y_ : List ByteArray, y_ = (x3_1.drop (x5_2 : Int).toNat) := ⟨_, rfl⟩
        replace H := zB hy211 H
        have Ny211 := zA hy211; clear hy211
        obtain ⟨c70, H⟩ := in_ H
        have LMc70 := zA c70; clear c70
        obtain ⟨y215, hy215⟩ : ∃ y_ : List ByteArray, y_ = (y208 ++ y211) := ⟨_, rfl⟩
        replace H : (spec_sortedTexts.l0 k2 l0 y215 (wrap64 (x4_1 + 1))) = some r := (zz24 hy215)
        have Ny215 := zA hy215; clear hy215; have H' := zA H; clear H; try go_wp2; replace HO_3 := zA (Kd.R_drew HO_3.out); replace HB := zA zz40
        obtain ⟨Ao72, co72, eo72⟩ := Kd.R_slice HO_3.out
        (first | subst eo72 | (injection eo72 with f1_ f2_ f3_; have f4_ := f1_.symm; have f5_ := f3_.symm; clear f1_ f2_ f3_; subst f4_; subst f5_))
        refine start_ (n := 15) (S := fun w' => True) (ds := []) #[ff,ff,ff,ff,ff,ff,ff,ff,ff,ff,ff,ff,ff,ff,ff] (by kernel_rfl) rfl rfl trivial (fun hHeld => ?_); refine with_tabW spec_sortedTexts.tab6 spec_sortedTexts.bits6 (fun HT_ HW_ => ?_)
        generalize wr.drew = w71 at HO_3 HB hHeld ⊢
        refine qp_ 0 13 ?_
        refine qp_ 1 14 ?_
        refine qp_ 2 15 ?_
        refine qp_ 3 16 ?_
        refine qp_ 4 17 ?_
        refine qu_ 5 18 ?_
        refine qu_ 6 19 ?_
        refine qu_ 7 20 ?_
        refine qu_ 8 21 ?_
        refine qu_ 9 22 ?_
        refine qu_ 10 23 ?_
        refine qu_ 11 24 ?_
        refine qu_ 12 25 ?_
        refine qu_ 13 26 ?_
        refine qp_ 14 27 ?_
        refine qd_ ?_
        try go_wp2; replace HO_3 := zA (Kd.R_drew HO_3.out); replace HB := zA zz40
        refine start_ (n := 15) (S := fun w' => True) (ds := []) #[ff,ff,ff,ff,ff,ff,ff,ff,ff,ff,ff,ff,ff,ff,ff] (by kernel_rfl) rfl rfl trivial (fun hHeld => ?_); refine with_tabW spec_sortedTexts.tab8 spec_sortedTexts.bits8 (fun HT_ HW_ => ?_)
        generalize w71.drew = w73 at HO_3 HB hHeld ⊢
        refine qp_ 0 30 ?_
        refine qp_ 1 31 ?_
        refine qp_ 2 32 ?_
        refine qp_ 3 33 ?_
        refine qp_ 4 34 ?_
        refine qu_ 5 35 ?_
        refine qu_ 6 36 ?_
        refine qu_ 7 37 ?_
        refine qu_ 8 38 ?_
        refine qu_ 9 39 ?_
        refine qu_ 10 40 ?_
        refine qu_ 11 41 ?_
        refine qu_ 12 42 ?_
        refine qu_ 13 43 ?_
        refine qp_ 14 44 ?_
        refine qd_ ?_
        try go_wp2; replace HO_3 := zA (Kd.R_drew HO_3.out); replace HB := zA zz40
        have q75 : (x5_2 : Int) ≤ ((x3_1.length : Int) : Int) := dz_
        obtain ⟨i075, hi075, _, hsz75, _⟩ := info_parts info9
        have hroom75 : x3_1.length ≤ co72 := (Kd.R_reads' HO_3.out).2.1
        have hC75 : Kd.C Kd.string _ Ao72 x3_1.length x3_1 := (Kd.R_reads' HO_3.out).2.2
        have hcut75 := cut_to (P := Try.prog) 31 9 .i64 Try.underlying31 hi075 Ao72 x3_1.length co72 x5_2 (of_decide_eq_true zz3) q75 hroom75; have hr75 := Kd.C_take (m := (x5_2 : Int).toNat) hC75 (by omega)
        have hy75 : y197.length = (x5_2 : Int).toNat := (zz42 Ny197.out)
        rw [← Ny197.out] at hr75
        rw [← hy75] at hcut75
        have HR200 := zA hr75
        have HC200 := zA (show y197.length ≤ co72 from by omega)
        clear hr75 hC75 hroom75 hi075 hsz75; have KY75 := zA hy75; clear hy75
        have KL75 := zA (show (x5_2 : Int).toNat ≤ x3_1.length from by omega)
        replace q75 := eq_true q75
        have p204 : 0 ≤ (x4_1 : Int) := dz_
        have q204 : x4_1 < (l0.length : Int) := dz_
        obtain ⟨ad204, e204, hx204_0⟩ := Kd.at_string HR0.out x4_1 p204 q204
        have hw204_0 := hx204_0
        cases e204
        replace hx204_0 := cup_ HB.out hx204_0
        replace p204 := eq_true p204
        replace q204 := eq_true q204
        have q76 : (x5_2 : Int) ≤ ((x3_1.length : Int) : Int) := dz_
        obtain ⟨i076, hi076, _, hsz76, _⟩ := info_parts info9
        have hroom76 : x3_1.length ≤ co72 := (Kd.R_reads' HO_3.out).2.1
        have hC76 : Kd.C Kd.string _ Ao72 x3_1.length x3_1 := (Kd.R_reads' HO_3.out).2.2
        have q076 : (0 : Int) ≤ (x5_2 : Int) := dz_
        have hcut76 := cut_from (P := Try.prog) 31 9 .i64 Try.underlying31 hi076 1 hsz76 Ao72 x3_1.length co72 x5_2 q076 q76; have hr76 := Kd.C_drop (m := (x5_2 : Int).toNat) (c := co72) hC76 (by omega) hroom76
        obtain ⟨A76, hA76⟩ : ∃ A1, A1 = (if co72 = (x5_2 : Int).toNat then Ao72 else (Ao72 : Option Addr).map (·.add ((x5_2 : Int).toNat * 1))) := ⟨_, rfl⟩
        obtain ⟨c76, hc76⟩ : ∃ c1, c1 = co72 - (x5_2 : Int).toNat := ⟨_, rfl⟩
        have hy76 : y211.length = x3_1.length - (x5_2 : Int).toNat := (by rw [Ny211.out, List.length_drop] <;> omega)
        rw [show (x3_1).drop (x5_2 : Int).toNat = y211 from Ny211.out.symm] at hr76
        replace hr76 : Kd.C Kd.string _ A76 y211.length y211 := (by rw [hA76]; exact hr76)
        rw [← hy76, ← hA76, ← hc76] at hcut76
        have HR214 := zA hr76
        have HC214 := zA (show y211.length ≤ c76 from by rw [hy76, hc76]; exact Nat.sub_le_sub_right hroom76 _)
        clear hr76 hC76 hroom76 hi076 hsz76 hc76; have KY76 := zA hy76; have KA76 := zA hA76; clear hy76 hA76
        have KL76 := zA (show (x5_2 : Int).toNat ≤ x3_1.length from by omega)
        replace q76 := eq_true q76
        refine start_ (n := 16) (S := fun w' => w'.cell? (ad204.add (x4_1).toNat) = some (.string (rdOf ByteArray.empty l0 x4_1))) (ds := []) #[ff,ff,ff,ff,ff,ff,ff,ff,ff,ff,ff,ff,ff,ff,ff,ff] (by kernel_rfl) rfl rfl ((cv_ HB.out hw204_0)) (fun hHeld => ?_); refine with_tabW spec_sortedTexts.tab9 spec_sortedTexts.bits9 (fun HT_ HW_ => ?_)
        generalize w73.drew = w74 at HO_3 HB HR200 HR214 hx204_0 hHeld ⊢
        refine qp_ 1 46 ?_
        refine qp_ 2 47 ?_
        refine qp_ 3 48 ?_
        refine qp_ 5 50 ?_
        refine qp_ 6 51 ?_
        refine qp_ 7 52 ?_
        refine qp_ 11 56 ?_
        refine qp_ 12 57 ?_
        refine qp_ 13 58 ?_
        refine qt_ 8 53 ?_
        refine join_ (σ := Value × Value × Value) 3 #[tt,tt,tt,tt,tt,tt,tt,tt,tt,tt,ff,tt,tt,tt,ff,ff] (fun s_ => [(45, s_.1), (49, s_.2.1), (54, s_.2.2)]) (fun s_ w' => (w'.cell? (ad204.add (x4_1).toNat) = some (.string (rdOf ByteArray.empty l0 x4_1))) ∧ (Kd.R Kd.string 9 w' w.heap.size (fun k_ => some k_ ≠ (s_.2.2 : Value).ownBlock ∧ some k_ ≠ (.slice Ao72 x3_1.length co72 : Value).ownBlock) s_.2.1 y201) ∧ (Kd.R Kd.string 9 w' w.heap.size (fun k_ => some k_ ≠ (s_.2.1 : Value).ownBlock ∧ some k_ ≠ (.slice Ao72 x3_1.length co72 : Value).ownBlock) s_.2.2 y205) ∧ (Kd.R Kd.string 9 w' w.heap.size (fun k_ => some k_ ≠ (s_.2.1 : Value).ownBlock ∧ some k_ ≠ (s_.2.2 : Value).ownBlock) (.slice Ao72 x3_1.length co72) x3_1) ∧ (Below w.heap.size w w')) ?_ ?_
        rotate_left
        ·intro hCont
         refine two_ (i := 0) (j := 9) (Ni := some 45) (Nj := some 54) #[tt,tt,tt,tt,ff,tt,tt,tt,tt,ff,ff,tt,tt,tt,ff,ff] #[ff,tt,tt,tt,ff,tt,tt,tt,tt,tt,ff,tt,tt,tt,ff,ff] rfl rfl rfl rfl (two_of HT_.out (by kernel_rfl)) (by decide) (by decide) (fun K hK => ?_) (fun K hK => ?_)
         ·skip
          refine Kd.R_lit_step Kd.string _ 9 ?hg (N := 45) ?hd (xs := ([] : List ByteArray)) (inner := []) (ok := fun _ => True) (okp := fun _ => True) ?hr ?hp (fun _ hk => hk) trivial (Below.refl _ _) (Nat.le_refl _) (by simp) ?_; (case hd => rfl); (case hg => rfl); (case hr => exact zz32); (case hp => exact (Reps.none _ _))
          intro v195 w77 ho78 hb hg_ hnew_
          clear hg_ hnew_
          replace ho78 := ny_ Ny194.out ho78
          have HO196 := zA (zz43 ho78 HO_3.out)
          replace HO_3 := zA (zz44 HO_3.out ho78)
          replace HR200 := zA (zz45 HR200.out)
          replace HR214 := zA (zz45 HR214.out)
          replace HB := zA zz4
          clear hb ho78
          refine hK.out _ _ ((cv_ HB.out hw204_0)) (fun hHeld => ?_)
          clear hK K
          refine qn_ 45 ?_
          refine two_ (i := 4) (j := 9) (Ni := some 49) (Nj := some 54) #[tt,tt,tt,tt,tt,tt,tt,tt,tt,ff,ff,tt,tt,tt,ff,ff] #[tt,tt,tt,tt,ff,tt,tt,tt,tt,tt,ff,tt,tt,tt,ff,ff] rfl rfl rfl rfl (two_of HT_.out (by kernel_rfl)) (by decide) (by decide) (fun K hK => ?_) (fun K hK => ?_)
          ·skip
           refine Kd.R_append_rows_step Kd.string (w0 := w) w.heap.size (by rfl) (.tmp 45) (.tmp 48) 31 9 (.string ⟨#[]⟩) 16 rfl Try.underlying31 info9 rfl (by decide) (by omega) v195 y194 y197 _ _ _ (fun k_ => some k_ ≠ (.slice Ao72 x3_1.length co72 : Value).ownBlock) (fun _ => False) rfl rfl ?aO ?aR (fun _ _ h => h) (fun _ h => h.elim) ?aF ?aB ?aS ?aL ?_
           (case aR => exact (zz46 HR200.out))
           (case aB => exact zz25)
           (case aF => exact (zz47 HO_3.out))
           (case aO => exact (zz48 HO196.out))
           (case aS => exact zz27)
           (case aL => have := LMc64.out; omega)
           intro v202 w79 ho hb hg hat
           rw [← Ny201.out] at ho
           replace HB := zA (hb)
           replace HR200 := zA ((show Kd.C Kd.string w79 Ao72 y197.length y197 from by rw [Ny197.out]; exact Kd.C_take (m := (x5_2 : Int).toNat) ((Kd.R_reads' (Kd.R_after (ok := (fun _ => True)) (zz22 HO_3.out) hg hat)).2.2) KL75.out))
           replace HR214 := zA ((show Kd.C Kd.string w79 A76 y211.length y211 from by rw [Ny211.out, KA76.out]; exact Kd.C_drop (m := (x5_2 : Int).toNat) (c := co72) ((Kd.R_reads' (Kd.R_after (ok := (fun _ => True)) (zz22 HO_3.out) hg hat)).2.2) KL76.out ((Kd.R_reads' (Kd.R_after (ok := (fun _ => True)) (zz22 HO_3.out) hg hat)).2.1)))
           replace HO_3 := zA (zz49 HO_3.out)
           have HO203 := zA (ho)
           clear HO196 ho hb hg hat
           refine hK.out _ _ ((cv_ HB.out hw204_0)) (fun hHeld => ?_)
           clear hK K
           refine qn_ 49 ?_
           refine qo_ 9 54 (fun K hK => ?_)
           refine Kd.R_lit_step Kd.string _ 9 ?hg (N := 54) ?hd (xs := ([rdOf ByteArray.empty l0 x4_1] : List ByteArray)) (inner := [.string (rdOf ByteArray.empty l0 x4_1)]) (ok := fun _ => True) (okp := fun _ => True) ?hr ?hp (fun _ hk => hk) trivial (Below.refl _ _) (Nat.le_refl _) (by simp) ?_; (case hd => rfl); (case hg => rfl); (case hr => exact zz32); (case hp => exact zz50)
           intro v206 w80 ho81 hb hg_ hnew_
           clear hg_ hnew_
           replace ho81 := ny_ Ny205.out ho81
           have HO207 := zA (zz51 ho81 HO_3.out HO203.out)
           replace HO_3 := zA (zz44 HO_3.out ho81)
           replace HO203 := zA (zz44 HO203.out ho81)
           replace HR200 := zA (zz45 HR200.out)
           replace HR214 := zA (zz45 HR214.out)
           replace HB := zA zz4
           clear hb ho81
           refine hK.out _ _ ((cv_ HB.out hw204_0)) (fun hHeld => ?_)
           clear hK K
           refine qn_ 54 ?_
           exact norm_ zz52 (hCont (v195, v202, v206) _ ⟨hHeld, (zz53 HO203.out), (zz54 HO207.out), (zz55 HO_3.out), zz56⟩)
          ·skip
           refine Kd.R_lit_step Kd.string _ 9 ?hg (N := 54) ?hd (xs := ([rdOf ByteArray.empty l0 x4_1] : List ByteArray)) (inner := [.string (rdOf ByteArray.empty l0 x4_1)]) (ok := fun _ => True) (okp := fun _ => True) ?hr ?hp (fun _ hk => hk) trivial (Below.refl _ _) (Nat.le_refl _) (by simp) ?_; (case hd => rfl); (case hg => rfl); (case hr => exact zz32); (case hp => exact zz50)
           intro v206 w79 ho80 hb hg_ hnew_
           clear hg_ hnew_
           replace ho80 := ny_ Ny205.out ho80
           have HO207 := zA (zz51 ho80 HO_3.out HO196.out)
           replace HO_3 := zA (zz44 HO_3.out ho80)
           replace HO196 := zA (zz44 HO196.out ho80)
           replace HR200 := zA (zz45 HR200.out)
           replace HR214 := zA (zz45 HR214.out)
           replace HB := zA zz4
           clear hb ho80
           refine hK.out _ _ ((cv_ HB.out hw204_0)) (fun hHeld => ?_)
           clear hK K
           refine qn_ 54 ?_
           refine qo_ 4 49 (fun K hK => ?_)
           refine Kd.R_append_rows_step Kd.string (w0 := w) w.heap.size (by rfl) (.tmp 45) (.tmp 48) 31 9 (.string ⟨#[]⟩) 16 rfl Try.underlying31 info9 rfl (by decide) (by omega) v195 y194 y197 _ _ _ (fun k_ => some k_ ≠ (.slice Ao72 x3_1.length co72 : Value).ownBlock ∧ some k_ ≠ (v206 : Value).ownBlock) (fun _ => False) rfl rfl ?aO ?aR (fun _ _ h => h) (fun _ h => h.elim) ?aF ?aB ?aS ?aL ?_
           (case aR => exact (zz46 HR200.out))
           (case aB => exact zz25)
           (case aF => exact (zz57 HO_3.out HO207.out))
           (case aO => exact (zz58 HO196.out))
           (case aS => exact zz27)
           (case aL => have := LMc64.out; omega)
           intro v202 w81 ho hb hg hat
           rw [← Ny201.out] at ho
           replace HO207 := zA (Kd.R_after (ok := (fun k_ => some k_ ≠ (.slice Ao72 x3_1.length co72 : Value).ownBlock)) (zz55 HO207.out) hg hat)
           replace HB := zA (hb)
           replace HR200 := zA ((show Kd.C Kd.string w81 Ao72 y197.length y197 from by rw [Ny197.out]; exact Kd.C_take (m := (x5_2 : Int).toNat) ((Kd.R_reads' (Kd.R_after (ok := (fun k_ => some k_ ≠ (v206 : Value).ownBlock)) (zz54 HO_3.out) hg hat)).2.2) KL75.out))
           replace HR214 := zA ((show Kd.C Kd.string w81 A76 y211.length y211 from by rw [Ny211.out, KA76.out]; exact Kd.C_drop (m := (x5_2 : Int).toNat) (c := co72) ((Kd.R_reads' (Kd.R_after (ok := (fun k_ => some k_ ≠ (v206 : Value).ownBlock)) (zz54 HO_3.out) hg hat)).2.2) KL76.out ((Kd.R_reads' (Kd.R_after (ok := (fun k_ => some k_ ≠ (v206 : Value).ownBlock)) (zz54 HO_3.out) hg hat)).2.1)))
           replace HO_3 := zA (Kd.R_after (ok := (fun k_ => some k_ ≠ (v206 : Value).ownBlock)) (zz54 HO_3.out) hg hat)
           have HO203 := zA (ho)
           clear HO196 ho hb hg hat
           refine hK.out _ _ ((cv_ HB.out hw204_0)) (fun hHeld => ?_)
           clear hK K
           refine qn_ 49 ?_
           exact norm_ zz52 (hCont (v195, v202, v206) _ ⟨hHeld, (zz53 HO203.out), (zz53 HO207.out), (zz53 HO_3.out), zz56⟩)
         ·skip
          refine Kd.R_lit_step Kd.string _ 9 ?hg (N := 54) ?hd (xs := ([rdOf ByteArray.empty l0 x4_1] : List ByteArray)) (inner := [.string (rdOf ByteArray.empty l0 x4_1)]) (ok := fun _ => True) (okp := fun _ => True) ?hr ?hp (fun _ hk => hk) trivial (Below.refl _ _) (Nat.le_refl _) (by simp) ?_; (case hd => rfl); (case hg => rfl); (case hr => exact zz32); (case hp => exact zz50)
          intro v206 w77 ho78 hb hg_ hnew_
          clear hg_ hnew_
          replace ho78 := ny_ Ny205.out ho78
          have HO207 := zA (zz43 ho78 HO_3.out)
          replace HO_3 := zA (zz44 HO_3.out ho78)
          replace HR200 := zA (zz45 HR200.out)
          replace HR214 := zA (zz45 HR214.out)
          replace HB := zA zz4
          clear hb ho78
          refine hK.out _ _ ((cv_ HB.out hw204_0)) (fun hHeld => ?_)
          clear hK K
          refine qn_ 54 ?_
          refine qo_ 0 45 (fun K hK => ?_)
          refine Kd.R_lit_step Kd.string _ 9 ?hg (N := 45) ?hd (xs := ([] : List ByteArray)) (inner := []) (ok := fun _ => True) (okp := fun _ => True) ?hr ?hp (fun _ hk => hk) trivial (Below.refl _ _) (Nat.le_refl _) (by simp) ?_; (case hd => rfl); (case hg => rfl); (case hr => exact zz32); (case hp => exact (Reps.none _ _))
          intro v195 w79 ho80 hb hg_ hnew_
          clear hg_ hnew_
          replace ho80 := ny_ Ny194.out ho80
          have HO196 := zA (zz51 ho80 HO_3.out HO207.out)
          replace HO_3 := zA (zz44 HO_3.out ho80)
          replace HO207 := zA (zz44 HO207.out ho80)
          replace HR200 := zA (zz45 HR200.out)
          replace HR214 := zA (zz45 HR214.out)
          replace HB := zA zz4
          clear hb ho80
          refine hK.out _ _ ((cv_ HB.out hw204_0)) (fun hHeld => ?_)
          clear hK K
          refine qn_ 45 ?_
          refine qo_ 4 49 (fun K hK => ?_)
          refine Kd.R_append_rows_step Kd.string (w0 := w) w.heap.size (by rfl) (.tmp 45) (.tmp 48) 31 9 (.string ⟨#[]⟩) 16 rfl Try.underlying31 info9 rfl (by decide) (by omega) v195 y194 y197 _ _ _ (fun k_ => some k_ ≠ (.slice Ao72 x3_1.length co72 : Value).ownBlock ∧ some k_ ≠ (v206 : Value).ownBlock) (fun _ => False) rfl rfl ?aO ?aR (fun _ _ h => h) (fun _ h => h.elim) ?aF ?aB ?aS ?aL ?_
          (case aR => exact (zz46 HR200.out))
          (case aB => exact zz25)
          (case aF => exact (zz57 HO_3.out HO207.out))
          (case aO => exact (zz58 HO196.out))
          (case aS => exact zz27)
          (case aL => have := LMc64.out; omega)
          intro v202 w81 ho hb hg hat
          rw [← Ny201.out] at ho
          replace HO207 := zA (Kd.R_after (ok := (fun k_ => some k_ ≠ (.slice Ao72 x3_1.length co72 : Value).ownBlock)) (zz55 HO207.out) hg hat)
          replace HB := zA (hb)
          replace HR200 := zA ((show Kd.C Kd.string w81 Ao72 y197.length y197 from by rw [Ny197.out]; exact Kd.C_take (m := (x5_2 : Int).toNat) ((Kd.R_reads' (Kd.R_after (ok := (fun k_ => some k_ ≠ (v206 : Value).ownBlock)) (zz55 HO_3.out) hg hat)).2.2) KL75.out))
          replace HR214 := zA ((show Kd.C Kd.string w81 A76 y211.length y211 from by rw [Ny211.out, KA76.out]; exact Kd.C_drop (m := (x5_2 : Int).toNat) (c := co72) ((Kd.R_reads' (Kd.R_after (ok := (fun k_ => some k_ ≠ (v206 : Value).ownBlock)) (zz55 HO_3.out) hg hat)).2.2) KL76.out ((Kd.R_reads' (Kd.R_after (ok := (fun k_ => some k_ ≠ (v206 : Value).ownBlock)) (zz55 HO_3.out) hg hat)).2.1)))
          replace HO_3 := zA (Kd.R_after (ok := (fun k_ => some k_ ≠ (v206 : Value).ownBlock)) (zz55 HO_3.out) hg hat)
          have HO203 := zA (ho)
          clear HO196 ho hb hg hat
          refine hK.out _ _ ((cv_ HB.out hw204_0)) (fun hHeld => ?_)
          clear hK K
          refine qn_ 49 ?_
          exact norm_ zz52 (hCont (v195, v202, v206) _ ⟨hHeld, (zz53 HO203.out), (zz53 HO207.out), (zz53 HO_3.out), zz56⟩)
        rintro ⟨v195, v202, v206⟩ w82 ⟨hS_, h0_, h1_, h2_, h3_⟩
        have n0_ : Aside0 (Kd.R Kd.string 9 w82 w.heap.size (fun k_ => some k_ ≠ (v206 : Value).ownBlock ∧ some k_ ≠ (.slice Ao72 x3_1.length co72 : Value).ownBlock) v202 y201) := ⟨h0_⟩
        have n1_ : Aside0 (Kd.R Kd.string 9 w82 w.heap.size (fun k_ => some k_ ≠ (v202 : Value).ownBlock ∧ some k_ ≠ (.slice Ao72 x3_1.length co72 : Value).ownBlock) v206 y205) := ⟨h1_⟩
        have n2_ : Aside0 (Kd.R Kd.string 9 w82 w.heap.size (fun k_ => some k_ ≠ (v202 : Value).ownBlock ∧ some k_ ≠ (v206 : Value).ownBlock) (.slice Ao72 x3_1.length co72) x3_1) := ⟨h2_⟩
        have n3_ : Aside0 (Below w.heap.size w w82) := ⟨h3_⟩
        clear HO_3 HB h0_ h1_ h2_ h3_; have HO203 := n0_; have HO207 := n1_; have HO_3 := n2_; have HB := n3_; clear n0_ n1_ n2_ n3_
        have hHeld : w82.cell? (ad204.add (x4_1).toNat) = some (.string (rdOf ByteArray.empty l0 x4_1)) := hS_
        obtain ⟨Ao84, co84, eo84⟩ := Kd.R_slice HO207.out
        (first | subst eo84 | (injection eo84 with f1_ f2_ f3_; have f4_ := f1_.symm; have f5_ := f3_.symm; clear f1_ f2_ f3_; subst f4_; subst f5_))
        refine norm_ (a' := ?_) ?_ ?_
        rotate_left
        ·simp only [putAll, Act.put, List.setIfInBounds_toArray, List.set_cons_zero, List.set_cons_succ]
         rfl
        refine qo_ 10 55 (fun K hK => ?_)
        refine Kd.R_append_rows_step Kd.string (w0 := w) w.heap.size (by rfl) (.tmp 49) (.tmp 54) 31 9 (.string ⟨#[]⟩) 16 rfl Try.underlying31 info9 rfl (by decide) (by omega) v202 y201 y205 _ _ _ (fun k_ => some k_ ≠ (.slice Ao72 x3_1.length co72 : Value).ownBlock ∧ some k_ ≠ (.slice Ao84 y205.length co84 : Value).ownBlock) (fun _ => False) rfl rfl ?aO ?aR (fun _ _ h => h) (fun _ h => h.elim) ?aF ?aB ?aS ?aL ?_
        (case aR => exact (zz20 HO207.out))
        (case aB => exact zz25)
        (case aF => exact (zz57 HO_3.out HO207.out))
        (case aO => exact (zz53 HO203.out))
        (case aS => exact zz27)
        (case aL => have := LMc67.out; omega)
        intro v209 w83 ho hb hg hat
        rw [← Ny208.out] at ho
        replace HO_3 := zA (Kd.R_after (ok := (fun k_ => some k_ ≠ (.slice Ao84 y205.length co84 : Value).ownBlock)) (zz53 HO_3.out) hg hat)
        replace HO207 := zA (Kd.R_after (ok := (fun k_ => some k_ ≠ (.slice Ao72 x3_1.length co72 : Value).ownBlock)) (zz53 HO207.out) hg hat)
        replace HB := zA (hb)
        have HO210 := zA (ho)
        clear HO203 ho hb hg hat
        refine hK.out _ _ ((cv_ HB.out hw204_0)) (fun hHeld => ?_)
        clear hK K
        refine qn_ 55 ?_
        refine qo_ 14 59 (fun K hK => ?_)
        refine Kd.R_append_rows_step Kd.string (w0 := w) w.heap.size (by rfl) (.tmp 55) (.tmp 58) 31 9 (.string ⟨#[]⟩) 16 rfl Try.underlying31 info9 rfl (by decide) (by omega) v209 y208 y211 _ _ _ (fun k_ => some k_ ≠ (.slice Ao72 x3_1.length co72 : Value).ownBlock ∧ some k_ ≠ (.slice Ao84 y205.length co84 : Value).ownBlock) (fun _ => False) rfl rfl ?aO ?aR (fun _ _ h => h) (fun _ h => h.elim) ?aF ?aB ?aS ?aL ?_
        (case aR => rw [Ny211.out, KA76.out]; exact Kd.C_drop (m := (x5_2 : Int).toNat) (c := co72) ((Kd.R_reads' (HO_3.out)).2.2) KL76.out ((Kd.R_reads' (HO_3.out)).2.1))
        (case aB => exact zz25)
        (case aF => exact (zz57 HO_3.out HO207.out))
        (case aO => exact (zz26 HO210.out))
        (case aS => exact zz27)
        (case aL => have := LMc70.out; omega)
        intro v216 w85 ho hb hg hat
        rw [← Ny215.out] at ho
        replace HO_3 := zA (Kd.R_after (ok := (fun k_ => some k_ ≠ (.slice Ao84 y205.length co84 : Value).ownBlock)) (zz22 HO_3.out) hg hat)
        replace HO207 := zA (Kd.R_after (ok := (fun k_ => some k_ ≠ (.slice Ao72 x3_1.length co72 : Value).ownBlock)) (zz22 HO207.out) hg hat)
        replace HB := zA (hb)
        have HO217 := zA (ho)
        clear HO210 ho hb hg hat
        refine hK.out _ _ ((cv_ HB.out hw204_0)) (fun hHeld => ?_)
        clear hK K
        refine qn_ 59 ?_
        refine qp_ 15 3 ?_
        refine qd_ ?_
        try go_wp2
        go_roundg k2
        case measure => have := HK1.out; have := HK2.out; omega
        case rel => exact ⟨(y215), (wrap64 (x4_1 + 1)), zz9, H', ⟨(zz41 HK1.out HK2.out)⟩, ⟨(zz59 HO217.out)⟩, ⟨zz23⟩⟩
       ·have c61b0 : (x5_2 == (x3_1.length : Int)) = false := beq_eq_false_iff_ne.mpr c61
        have c61b1 : (x5_2 != (x3_1.length : Int)) = true := bne_iff_ne.mpr c61
        rcases ie_ H with ⟨c86, H⟩ | ⟨c86, H⟩
        ·exact absurd H (by simp)
        ·exact absurd H (by simp)
   ·obtain rfl := Option.some.inj H
    go_wp2
    go_ret
    exact ⟨_, zz14, (zz22 HO_3.out), zz23⟩

end Go.Proofs.Ytieghkchhjailaa.S
