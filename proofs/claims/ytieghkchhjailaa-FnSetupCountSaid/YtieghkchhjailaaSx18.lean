-- WRITTEN by wip/ext.py
import Derived.Test.YtieghkchhjailaaSx0
namespace Go.Proofs.Ytieghkchhjailaa.S
open Go.RowKit Go.Proofs.YtieghkchhjailaaW.PrintWords Go.Proofs.YtieghkchhjailaaW.PrintLast Go.Proofs.YtieghkchhjailaaW.PrintMore
attribute [local go_sem] max2_int min2_int max_two min_two max_three min_three max_four min_four   -- for this text's walks alone
set_option linter.unusedVariables false
set_option linter.unusedSimpArgs false

/-! ### impl_TotalSetups: function 41 -/
def impl_TotalSetups.l0 : Nat → Int → List (S70) → Int → Int → Option (Int)
 | 0, _, _, _, _ => none
 | k + 1, x3, x6, x7, x8 => if x8 < x7 then (if 0 ≤ x8 then (if x8 < (x6.length : Int) then (if ((rd_T70 x6 x8).f0) = 0 then (impl_TotalSetups.l0 k (wrap64 (x3 + 1)) x6 x7 (wrap64 (x8 + 1))) else (impl_TotalSetups.l0 k x3 x6 x7 (wrap64 (x8 + 1)))) else (none)) else (none)) else (some x3)
def impl_TotalSetups.f (k : Nat) (l0 : List (S70)) : Option (Int) := impl_TotalSetups.l0 k 0 l0 (l0.length : Int) 0
theorem impl_TotalSetups.mono_l : ∀ k, (∀ y0 y1 y2 y3, LeO (impl_TotalSetups.l0 k y0 y1 y2 y3) (impl_TotalSetups.l0 (k + 1) y0 y1 y2 y3))
 | 0 => fun _ _ _ _ r h => by simp [impl_TotalSetups.l0] at h
 | k + 1 => by
  have ih0 := impl_TotalSetups.mono_l k
  ·intro y0 y1 y2 y3
   unfold impl_TotalSetups.l0
   repeat' first | (with_reducible first | exact ih0 _ _ _ _ | exact le1_ | exact le2_ | apply LeO.ite | refine LeO.bind ?_ fun _ => ?_) | apply LeO.ite | refine LeO.bind ?_ fun _ => ?_
theorem impl_TotalSetups.mono : ∀ a0 k, LeO (impl_TotalSetups.f k a0) (impl_TotalSetups.f (k + 1) a0) := by
 intro a0 k
 have ih0 := impl_TotalSetups.mono_l k
 unfold impl_TotalSetups.f
 repeat' first | (with_reducible first | exact ih0 _ _ _ _ | exact le1_ | exact le2_ | apply LeO.ite | refine LeO.bind ?_ fun _ => ?_) | apply LeO.ite | refine LeO.bind ?_ fun _ => ?_
set_option maxHeartbeats 8000000 in
set_option maxRecDepth 100000 in
theorem impl_TotalSetups.calls (k : Nat) (A0 : Option Addr) (c0 : Nat) (l0 : List (S70)) (r : Int) (w : World) (hr0 : Kd.C k70 w A0 l0.length l0) (hc0 : l0.length ≤ c0) (h : impl_TotalSetups.f k l0 = some r) :
  Calls Try.prog 41 #[.slice A0 l0.length c0] w fun e w' => e = .returned (.int .i64 r) ∧ Below w.heap.size w w' := by
 have hu70 := Try.underlying70; have HR0 := zA hr0; have HC0 := zA hc0; clear hr0 hc0; have HB := zA zz2
 have H : (impl_TotalSetups.l0 k 0 l0 (l0.length : Int) 0) = some r := h
 clear h; have H' := zA H; clear H
 go_enter Try.func41, Try.ntmps41
 go_wp2
 go_loopg [3, 8] k (fun kq v3 v8 w' => ∃ (x3_1 : Int) (x8_1 : Int), v3 = .int .i64 x3_1 ∧ v8 = .int .i64 x8_1 ∧ Aside0 (impl_TotalSetups.l0 kq x3_1 l0 (l0.length : Int) x8_1 = some r) ∧ Aside0 (kq ≤ k) ∧ Aside0 (Below w.heap.size w w'))
 case atStart => exact ⟨(0), (0), zz9, zz9, H', ⟨Nat.le_refl _⟩, ⟨zz23⟩⟩
 case round =>
  clear H'
  obtain ⟨x3_1, x8_1, rfl, rfl, HA, HK1, HB⟩ := hrel
  cases gk with
  | zero => exact absurd HA.out (by simp [impl_TotalSetups.l0])
  | succ k1 =>
   have H := HA.out; clear HA
   simp only [impl_TotalSetups.l0] at H
   rcases iu_ H with ⟨c2b0, H⟩ | ⟨c2b0, H⟩
   ·obtain ⟨c3b0, H⟩ := it_ H
    obtain ⟨c4b0, H⟩ := it_ H
    rcases ie_ H with ⟨c5, H⟩ | ⟨c5, H⟩
    ·have c5b0 : (((rd_T70 l0 x8_1).f0) == 0) = true := beq_iff_eq.mpr c5
     have c5b1 : (((rd_T70 l0 x8_1).f0) != 0) = false := bne_eq_false_iff_eq.mpr c5
     clear c5; have H' := zA H; clear H
     have p645 : 0 ≤ (x8_1 : Int) := dz_
     have q645 : x8_1 < (l0.length : Int) := dz_
     obtain ⟨ad645, e645, hx645_0, hx645_1⟩ := at_T70 HR0.out x8_1 p645 q645
     cases e645
     replace hx645_0 := cup_ HB.out hx645_0; replace hx645_1 := cup_ HB.out hx645_1
     replace p645 := eq_true p645
     replace q645 := eq_true q645
     go_wp2_with (((with_reducible refine gate_dst (N := 5) rfl ?_); refine bx_ 5 #[.int .i64 0, .string (⟨#[]⟩ : ByteArray)] 70 ?_; intro gb646 hg w6 hbox hb; have BK646 := zA (hbox); have GW646 := zA ((zz38 : w.heap.size ≤ gb646)); have GE646 := zA ((zz38 : w.heap.size ≤ gb646)); replace HB := zA zz4; clear hb hbox hg; obtain ⟨hcz7_0, hcz7_1, hfz7_0, hfz7_1⟩ := bk2_ BK646.out))
     go_roundg k1
     case measure => have := HK1.out; omega
     case rel => exact ⟨(wrap64 (x3_1 + 1)), (wrap64 (x8_1 + 1)), zz9, zz9, H', ⟨by have := HK1.out; omega⟩, ⟨(zz7 GE646.out)⟩⟩
    ·have c5b0 : (((rd_T70 l0 x8_1).f0) == 0) = false := beq_eq_false_iff_ne.mpr c5
     have c5b1 : (((rd_T70 l0 x8_1).f0) != 0) = true := bne_iff_ne.mpr c5
     have H' := zA H; clear H
     have p645 : 0 ≤ (x8_1 : Int) := dz_
     have q645 : x8_1 < (l0.length : Int) := dz_
     obtain ⟨ad645, e645, hx645_0, hx645_1⟩ := at_T70 HR0.out x8_1 p645 q645
     cases e645
     replace hx645_0 := cup_ HB.out hx645_0; replace hx645_1 := cup_ HB.out hx645_1
     replace p645 := eq_true p645
     replace q645 := eq_true q645
     go_wp2_with (((with_reducible refine gate_dst (N := 5) rfl ?_); refine bx_ 5 #[.int .i64 0, .string (⟨#[]⟩ : ByteArray)] 70 ?_; intro gb646 hg w8 hbox hb; have BK646 := zA (hbox); have GW646 := zA ((zz38 : w.heap.size ≤ gb646)); have GE646 := zA ((zz38 : w.heap.size ≤ gb646)); replace HB := zA zz4; clear hb hbox hg; obtain ⟨hcz9_0, hcz9_1, hfz9_0, hfz9_1⟩ := bk2_ BK646.out))
     go_roundg k1
     case measure => have := HK1.out; omega
     case rel => exact ⟨(x3_1), (wrap64 (x8_1 + 1)), zz9, zz9, H', ⟨by have := HK1.out; omega⟩, ⟨(zz7 GE646.out)⟩⟩
   ·obtain rfl := Option.some.inj H
    go_wp2
    go_ret
    exact ⟨zz14, zz23⟩

end Go.Proofs.Ytieghkchhjailaa.S
