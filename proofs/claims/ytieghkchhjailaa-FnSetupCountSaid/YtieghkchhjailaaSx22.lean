-- WRITTEN by wip/ext.py
import Derived.Test.YtieghkchhjailaaSx0
import Derived.Test.YtieghkchhjailaaSx1
import Derived.Test.YtieghkchhjailaaSx16
import Derived.Test.YtieghkchhjailaaSx18
namespace Go.Proofs.Ytieghkchhjailaa.S
open Go.RowKit Go.Proofs.YtieghkchhjailaaW.PrintWords Go.Proofs.YtieghkchhjailaaW.PrintLast Go.Proofs.YtieghkchhjailaaW.PrintMore
attribute [local go_sem] max2_int min2_int max_two min_two max_three min_three max_four min_four   -- for this text's walks alone
set_option linter.unusedVariables false
set_option linter.unusedSimpArgs false

/-! ### spec_DrawSetupCount: function 49 -/
def spec_DrawSetupCount.f (k : Nat) (l0 : List Int) : Option ((List (S70)) × ByteArray) := (spec_newReader.f l0).bind fun bt723 => ((spec_someEvents.f k bt723.1 bt723.2).bind fun bt726 => ((spec_reader_of.f k bt723.1 bt726.2.2.2 (([(⟨#[100, 98]⟩ : ByteArray), (⟨#[116, 109, 112]⟩ : ByteArray), (⟨#[110, 101, 116]⟩ : ByteArray), (⟨#[110, 111]⟩ : ByteArray)] : List ByteArray))).bind fun bt740 => (some (bt726.2.2.1, bt740.1))))
theorem spec_DrawSetupCount.mono : ∀ a0 k, LeO (spec_DrawSetupCount.f k a0) (spec_DrawSetupCount.f (k + 1) a0) := by
 intro a0 k
 unfold spec_DrawSetupCount.f
 repeat' first | (with_reducible first | exact spec_reader_of.mono _ _ _ _ | exact spec_someEvents.mono _ _ _ | exact le1_ | exact le2_ | apply LeO.ite | refine LeO.bind ?_ fun _ => ?_) | apply LeO.ite | refine LeO.bind ?_ fun _ => ?_
set_option maxHeartbeats 8000000 in
set_option maxRecDepth 100000 in
theorem spec_DrawSetupCount.calls (k : Nat) (A0 : Option Addr) (c0 : Nat) (l0 : List Int) (r1 : List (S70)) (r2 : ByteArray) (w : World) (hr0 : Kd.C (Kd.int .u8) w A0 l0.length l0) (hc0 : l0.length ≤ c0) (h : spec_DrawSetupCount.f k l0 = some (r1, r2)) :
  Calls Try.prog 49 #[.slice A0 l0.length c0] w fun e w' => ∃ v0_ : Value, e = .returned (.tuple #[v0_, .string r2]) ∧ Kd.R k70 70 w' w.heap.size (fun _ => True) v0_ r1 ∧ Below w.heap.size w w' := by
 have hu108 := Try.underlying108; have HR0 := zA hr0; have HC0 := zA hc0; clear hr0 hc0; have HB := zA zz2
 have H : ((spec_newReader.f l0).bind fun bt723 => ((spec_someEvents.f k bt723.1 bt723.2).bind fun bt726 => ((spec_reader_of.f k bt723.1 bt726.2.2.2 (([(⟨#[100, 98]⟩ : ByteArray), (⟨#[116, 109, 112]⟩ : ByteArray), (⟨#[110, 101, 116]⟩ : ByteArray), (⟨#[110, 111]⟩ : ByteArray)] : List ByteArray))).bind fun bt740 => (some (bt726.2.2.1, bt740.1))))) = some (r1, r2) := h
 clear h
 obtain ⟨⟨t723, t724⟩, A2, H⟩ := bs_ H
 (try dsimp only at H)
 obtain ⟨⟨t726, t729, t732, t735⟩, A3, H⟩ := bs_ H
 (try dsimp only at H)
 obtain ⟨y737, hy737⟩ : ∃ y_ : List ByteArray, y_ = (([(⟨#[100, 98]⟩ : ByteArray), (⟨#[116, 109, 112]⟩ : ByteArray), (⟨#[110, 101, 116]⟩ : ByteArray), (⟨#[110, 111]⟩ : ByteArray)] : List ByteArray)) := ⟨_, rfl⟩
 replace H : ((spec_reader_of.f k t723 t735 y737).bind fun bt740 => (some (t732, bt740.1))) = some (r1, r2) := (zz24 hy737)
 have Ny737 := zA hy737; clear hy737
 obtain ⟨⟨t740, t741⟩, A4, H⟩ := bs_ H
 (try dsimp only at H)
 simp only [Option.some.injEq, Prod.mk.injEq] at H
 obtain ⟨rfl, rfl⟩ := H
 go_enter Try.func49, Try.ntmps49
 go_wp2_with (first | ((with_reducible refine gate_callee (f := 75) rfl ?_); refine goesL_ (some 8) rfl rfl Try.func75 (by kernel_rfl) rfl #[.slice A0 l0.length c0] rfl zz17 ?_; (with_reducible refine (spec_newReader.calls _ _ l0 t723 t724 w _ ?side1 ?side2 ?side3 A2.out).mono ?_); (case side1 => exact zz23); (case side2 => exact HR0.out); (case side3 => exact HC0.out); rintro e w5 ⟨g725, rfl, hi, hb, hb2⟩; refine ⟨_, rfl, ?_⟩; replace HB := zA (hb); have HI725 := zA (hi); (try clear hb); (try clear hb2); (try clear hi)) | ((with_reducible refine gate_callee (f := 84) rfl ?_); refine goesL_ (some 11) rfl rfl Try.func84 (by kernel_rfl) rfl #[.pointer (some ⟨g725, 0, none⟩)] rfl zz17 ?_; (with_reducible refine (spec_someEvents.calls k g725 t723 t724 t726 t729 t732 t735 w _ ?side1 ?side2 A3.out).mono ?_); (case side1 => exact (zz11 HI725.out)); (case side2 => exact (zz13 HI725.out)); rintro e w6 ⟨v727, v730, v733, rfl, ho0, ho1, ho2, hi, hb, hk⟩; refine ⟨_, rfl, ?_⟩; have HO728 := zA (Kd.N_lower (Kd.N_mono (ok' := fun k_ => some k_ ≠ (v730 : Value).ownBlock ∧ some k_ ≠ (v733 : Value).ownBlock ∧ k_ ≠ g725) ho0 (fun k_ hk_ => ⟨hk_.2.1, hk_.2.2, (IsS120.fresh (zz36 HI725.out) k_ hk_.1)⟩)) (below_size (zz61 HI725.out))); have HO731 := zA (Kd.N_lower (Kd.N_mono (ok' := fun k_ => some k_ ≠ (v727 : Value).ownBlock ∧ some k_ ≠ (v733 : Value).ownBlock ∧ k_ ≠ g725) ho1 (fun k_ hk_ => ⟨hk_.2.1, hk_.2.2, (IsS120.fresh (zz36 HI725.out) k_ hk_.1)⟩)) (below_size (zz61 HI725.out))); have HO734 := zA (Kd.R_lower (Kd.R_mono (ok' := fun k_ => True) ho2 (fun _ hk_ => trivial)) (below_size (zz61 HI725.out))); replace HB := zA (hb); replace HI725 := zA (hi); (try clear hb); (try clear hk); (try clear hi); (try clear ho0); (try clear ho1); (try clear ho2)) | ((with_reducible refine gate_dst (N := 5) rfl ?_); refine bx_ 5 #[.slice none 0 0, .slice none 0 0] 108 ?_; intro gb736 hg w7 hbox hb; replace HO728 := zA (Kd.N_below (Kd.N_elderB (zz131 HO728.out) gb736 (Nat.le_of_eq hg.symm)) hb); replace HO731 := zA (Kd.N_below (Kd.N_elderB (zz131 HO731.out) gb736 (Nat.le_of_eq hg.symm)) hb); replace HO734 := zA (zz33 HO734.out); have BK736 := zA (hbox); have GW736 := zA ((by rw [hg]; exact (below_size (zz61 HI725.out)) : w.heap.size ≤ gb736)); have GE736 := zA ((by rw [hg]; exact (below_size (zz61 HI725.out)) : w.heap.size ≤ gb736)); replace HB := zA (zz30 HI725.out); have NB725_736 := zA ((by rw [hg]; exact Nat.ne_of_lt (IsS120.lt (show IsS120 w _ g725 t723 _ from by repeat (first | (with_reducible first | exact HI725.out | apply IsS120.alloc | apply IsS120.drewN | apply IsS120.drew | apply IsS120.set_1) | exact HI725.out))) : g725 ≠ gb736)); have NB736_725 := zA ((by rw [hg]; exact Nat.ne_of_gt (IsS120.lt (show IsS120 w _ g725 t723 _ from by repeat (first | (with_reducible first | exact HI725.out | apply IsS120.alloc | apply IsS120.drewN | apply IsS120.drew | apply IsS120.set_1) | exact HI725.out))) : gb736 ≠ g725)); replace HI725 := zA (zz31 HI725.out); clear hb hbox hg; obtain ⟨Ao8, co8, eo8⟩ := Kd.N_slice HO728.out; subst eo8; have hnb9 := NB736_725.out; have hnc9 := NB725_736.out; obtain ⟨hcz10_0, hcz10_1, hfz10_0, hfz10_1⟩ := bk2_ BK736.out; obtain ⟨Ao11, co11, eo11⟩ := Kd.N_slice HO731.out; subst eo11) | ((with_reducible refine gate_dst (N := 16) rfl ?_); refine Kd.R_lit Kd.string _ 9 ?hg (N := 16) ?hd (xs := ([(⟨#[100, 98]⟩ : ByteArray), (⟨#[116, 109, 112]⟩ : ByteArray), (⟨#[110, 101, 116]⟩ : ByteArray), (⟨#[110, 111]⟩ : ByteArray)] : List ByteArray)) (inner := [.string (⟨#[100, 98]⟩ : ByteArray), .string (⟨#[116, 109, 112]⟩ : ByteArray), .string (⟨#[110, 101, 116]⟩ : ByteArray), .string (⟨#[110, 111]⟩ : ByteArray)]) (ok := fun _ => True) (okp := fun _ => True) ?hr ?hp (fun _ hk => hk) trivial (Below.refl _ _) (Nat.le_refl _) (by simp) ?_; (case hd => rfl); (case hg => rfl); (case hr => exact zz32); (case hp => exact (Reps.one (show Kd.M Kd.string _ _ _ (⟨#[100, 98]⟩ : ByteArray) [.string (⟨#[100, 98]⟩ : ByteArray)] from rfl) (Reps.one (show Kd.M Kd.string _ _ _ (⟨#[116, 109, 112]⟩ : ByteArray) [.string (⟨#[116, 109, 112]⟩ : ByteArray)] from rfl) (Reps.one (show Kd.M Kd.string _ _ _ (⟨#[110, 101, 116]⟩ : ByteArray) [.string (⟨#[110, 101, 116]⟩ : ByteArray)] from rfl) (Reps.one (show Kd.M Kd.string _ _ _ (⟨#[110, 111]⟩ : ByteArray) [.string (⟨#[110, 111]⟩ : ByteArray)] from rfl) (Reps.none _ _)))))); intro v738 w12 ho13 hb hg_ hnew_; clear hg_ hnew_; replace ho13 := ny_ Ny737.out ho13; replace HO728 := zA (Kd.N_elder' (by (with_reducible repeat (first | apply Kd.N_alloc | apply Kd.N_drewN | apply Kd.N_drew)); exact (Kd.N_mono (Kd.N_far (p := ⟨gb736, 1, none⟩) (Kd.N_far (p := ⟨gb736, 0, none⟩) (Kd.N_mono HO728.out (fun k_ hk => (⟨hk, hk.2⟩ : _ ∧ k_ ≠ gb736))) (fun _ hk => hk.2) (.slice Ao8 t726.length co8)) (fun _ hk => hk.2) (.slice Ao11 t729.length co11)) (fun _ h_ => h_.1))) (Kd.R_base ho13) hb); replace HO731 := zA (Kd.N_elder' (by (with_reducible repeat (first | apply Kd.N_alloc | apply Kd.N_drewN | apply Kd.N_drew)); exact (Kd.N_mono (Kd.N_far (p := ⟨gb736, 1, none⟩) (Kd.N_far (p := ⟨gb736, 0, none⟩) (Kd.N_mono HO731.out (fun k_ hk => (⟨hk, hk.2⟩ : _ ∧ k_ ≠ gb736))) (fun _ hk => hk.2) (.slice Ao8 t726.length co8)) (fun _ hk => hk.2) (.slice Ao11 t729.length co11)) (fun _ h_ => h_.1))) (Kd.R_base ho13) hb); replace HO734 := zA (Kd.R_below (by (with_reducible repeat first | apply Kd.R_alloc | apply Kd.R_drewN | apply Kd.R_drew); exact (Kd.R_mono (Kd.R_far (p := ⟨gb736, 1, none⟩) (Kd.R_far (p := ⟨gb736, 0, none⟩) (Kd.R_types HO734.out BK736.out (by decide)) (fun _ hk => hk.2) (.slice Ao8 t726.length co8)) (fun _ hk => hk.2) (.slice Ao11 t729.length co11)) (fun _ h_ => h_.1))) hb); have HO739 := zA (Kd.R_lower ho13 (below_size (by repeat first | (with_reducible first | exact HB.out | apply below_alloc | apply pw_below_drewN | apply below_drew1 | refine below_set ?_ (IsS120.ge HI725.out) | refine below_set ?_ GE736.out) | exact HB.out))); replace BK736 := zA (blk_below (g := gb736) (o := .cells #[.slice Ao8 t726.length co8, .slice Ao11 t729.length co11] 108 (0, 0)) (by (with_reducible repeat first | apply blk_drewN | apply blk_drew | apply blk_alloc); refine blk_put (cs := #[.slice Ao8 t726.length co8, .slice none 0 0]) ?_ 1 _ rfl; (with_reducible repeat first | apply blk_drewN | apply blk_drew | apply blk_alloc); refine blk_put (cs := #[.slice none 0 0, .slice none 0 0]) ?_ 0 _ rfl; (with_reducible repeat first | apply blk_drewN | apply blk_drew | apply blk_alloc); exact BK736.out) hb); replace HB := zA (zz72 HI725.out GE736.out); replace HI725 := zA (IsS120.below (show IsS120 w ((w7.setCell ⟨gb736, 0, none⟩ (.slice Ao8 t726.length co8)).setCell ⟨gb736, 1, none⟩ (.slice Ao11 t729.length co11)) g725 t723 t735 from by repeat (first | (with_reducible first | exact HI725.out | apply IsS120.alloc | apply IsS120.drewN | apply IsS120.drew | apply IsS120.set_1 | refine IsS120.far ?_ NB725_736.out _) | exact HI725.out)) hb); clear hb ho13; obtain ⟨Ao14, co14, eo14⟩ := Kd.R_slice HO739.out; subst eo14) | ((with_reducible refine gate_callee (f := 87) rfl ?_); refine goesL_ (some 17) rfl rfl Try.func87 (by kernel_rfl) rfl #[.pointer (some ⟨g725, 0, none⟩), .slice Ao14 y737.length co14] rfl zz17 ?_; (with_reducible refine (spec_reader_of.calls k g725 t723 t735 _ _ y737 t740 t741 w _ ?side1 ?side2 ?side3 ?side4 ?side5 A4.out).mono ?_); (case side1 => exact (zz75 HI725.out NB725_736.out)); (case side2 => exact (zz76 HI725.out GE736.out)); (case side3 => exact (zz20 HO739.out)); (case side4 => exact (zz21 HO739.out)); (case side5 => exact (zz34 HI725.out HO739.out)); rintro e w15 ⟨rfl, hi, hb, hk⟩; refine ⟨_, rfl, ?_⟩; replace HO728 := zA (Kd.N_mono (Kd.N_keep (Kd.N_mono (ok := fun k_ => (((some k_ ≠ (.slice Ao11 t729.length co11 : Value).ownBlock ∧ (some k_ ≠ (v733 : Value).ownBlock ∧ k_ ≠ g725)) ∧ k_ ≠ gb736) ∧ some k_ ≠ (.slice Ao14 y737.length co14 : Value).ownBlock)) (zz131 HO728.out) (fun k_ hk_ => (⟨hk_, hk_.1.1.2.2⟩ : _ ∧ k_ ≠ g725))) hk (fun _ h => h.2)) (fun _ h => h.1)); replace HO731 := zA (Kd.N_mono (Kd.N_keep (Kd.N_mono (ok := fun k_ => (((some k_ ≠ (.slice Ao8 t726.length co8 : Value).ownBlock ∧ (some k_ ≠ (v733 : Value).ownBlock ∧ k_ ≠ g725)) ∧ k_ ≠ gb736) ∧ some k_ ≠ (.slice Ao14 y737.length co14 : Value).ownBlock)) (zz131 HO731.out) (fun k_ hk_ => (⟨hk_, hk_.1.1.2.2⟩ : _ ∧ k_ ≠ g725))) hk (fun _ h => h.2)) (fun _ h => h.1)); replace HO734 := zA (Kd.R_mono (Kd.R_keep (IsS120.apart (show IsS120 w _ g725 t723 _ from by repeat (first | (with_reducible first | exact HI725.out | apply IsS120.alloc | apply IsS120.drewN | apply IsS120.drew | apply IsS120.set_1 | refine IsS120.far ?_ NB725_736.out _) | exact HI725.out)) (zz22 HO734.out) (by decide)) hk (fun _ h => h.2)) (fun _ h => h.1)); replace BK736 := zA (KeepBut.blk hk (g' := gb736) (o := .cells #[.slice Ao8 t726.length co8, .slice Ao11 t729.length co11] 108 (0, 0)) (zz6 BK736.out) NB736_725.out (by simp)); replace HO739 := zA (Kd.R_mono (Kd.R_keep (IsS120.apart (show IsS120 w _ g725 t723 _ from by repeat (first | (with_reducible first | exact HI725.out | apply IsS120.alloc | apply IsS120.drewN | apply IsS120.drew | apply IsS120.set_1 | refine IsS120.far ?_ NB725_736.out _) | exact HI725.out)) (zz22 HO739.out) (by decide)) hk (fun _ h => h.2)) (fun _ h => h.1)); replace HB := zA (hb); replace HI725 := zA (hi); (try clear hb); (try clear hk); (try clear hi)))
 go_ret2
 exact ⟨_, zz14, (zz22 HO734.out), (zz76 HI725.out GE736.out)⟩

/-! ### impl_SetupCount: function 50 -/
def impl_SetupCount.l0 : Nat → ByteArray → Int → List (S70) → Int → Int → Option (Int)
 | 0, _, _, _, _, _ => none
 | k + 1, x1, x5, x8, x9, x10 => if x10 < x9 then (if 0 ≤ x10 then (if x10 < (x8.length : Int) then (if ((rd_T70 x8 x10).f0) = 0 then (if ((rd_T70 x8 x10).f1).toList = x1.toList then (impl_SetupCount.l0 k x1 (wrap64 (x5 + 1)) x8 x9 (wrap64 (x10 + 1))) else (impl_SetupCount.l0 k x1 x5 x8 x9 (wrap64 (x10 + 1)))) else (impl_SetupCount.l0 k x1 x5 x8 x9 (wrap64 (x10 + 1)))) else (none)) else (none)) else (some x5)
def impl_SetupCount.f (k : Nat) (l0 : List (S70)) (a1 : ByteArray) : Option (Int) := impl_SetupCount.l0 k a1 0 l0 (l0.length : Int) 0
theorem impl_SetupCount.mono_l : ∀ k, (∀ y0 y1 y2 y3 y4, LeO (impl_SetupCount.l0 k y0 y1 y2 y3 y4) (impl_SetupCount.l0 (k + 1) y0 y1 y2 y3 y4))
 | 0 => fun _ _ _ _ _ r h => by simp [impl_SetupCount.l0] at h
 | k + 1 => by
  have ih0 := impl_SetupCount.mono_l k
  ·intro y0 y1 y2 y3 y4
   unfold impl_SetupCount.l0
   repeat' first | (with_reducible first | exact ih0 _ _ _ _ _ | exact le1_ | exact le2_ | apply LeO.ite | refine LeO.bind ?_ fun _ => ?_) | apply LeO.ite | refine LeO.bind ?_ fun _ => ?_
theorem impl_SetupCount.mono : ∀ a0 a1 k, LeO (impl_SetupCount.f k a0 a1) (impl_SetupCount.f (k + 1) a0 a1) := by
 intro a0 a1 k
 have ih0 := impl_SetupCount.mono_l k
 unfold impl_SetupCount.f
 repeat' first | (with_reducible first | exact ih0 _ _ _ _ _ | exact le1_ | exact le2_ | apply LeO.ite | refine LeO.bind ?_ fun _ => ?_) | apply LeO.ite | refine LeO.bind ?_ fun _ => ?_
set_option maxHeartbeats 8000000 in
set_option maxRecDepth 100000 in
theorem impl_SetupCount.calls (k : Nat) (A0 : Option Addr) (c0 : Nat) (l0 : List (S70)) (a1 : ByteArray) (r : Int) (w : World) (hr0 : Kd.C k70 w A0 l0.length l0) (hc0 : l0.length ≤ c0) (h : impl_SetupCount.f k l0 a1 = some r) :
  Calls Try.prog 50 #[.slice A0 l0.length c0, .string a1] w fun e w' => e = .returned (.int .i64 r) ∧ Below w.heap.size w w' := by
 have hu70 := Try.underlying70; have HR0 := zA hr0; have HC0 := zA hc0; clear hr0 hc0; have HB := zA zz2
 have H : (impl_SetupCount.l0 k a1 0 l0 (l0.length : Int) 0) = some r := h
 clear h; have H' := zA H; clear H
 go_enter Try.func50, Try.ntmps50
 go_wp2
 go_loopg [5, 10] k (fun kq v5 v10 w' => ∃ (x5_1 : Int) (x10_1 : Int), v5 = .int .i64 x5_1 ∧ v10 = .int .i64 x10_1 ∧ Aside0 (impl_SetupCount.l0 kq a1 x5_1 l0 (l0.length : Int) x10_1 = some r) ∧ Aside0 (kq ≤ k) ∧ Aside0 (Below w.heap.size w w'))
 case atStart => exact ⟨(0), (0), zz9, zz9, H', ⟨Nat.le_refl _⟩, ⟨zz23⟩⟩
 case round =>
  clear H'; try clear p2
  obtain ⟨x5_1, x10_1, rfl, rfl, HA, HK1, HB⟩ := hrel
  cases gk with
  | zero => exact absurd HA.out (by simp [impl_SetupCount.l0])
  | succ k1 =>
   have H := HA.out; clear HA
   simp only [impl_SetupCount.l0] at H
   rcases iu_ H with ⟨c3b0, H⟩ | ⟨c3b0, H⟩
   ·obtain ⟨c4b0, H⟩ := it_ H
    obtain ⟨c5b0, H⟩ := it_ H
    rcases ie_ H with ⟨c6, H⟩ | ⟨c6, H⟩
    ·have c6b0 : (((rd_T70 l0 x10_1).f0) == 0) = true := beq_iff_eq.mpr c6
     have c6b1 : (((rd_T70 l0 x10_1).f0) != 0) = false := bne_eq_false_iff_eq.mpr c6
     clear c6
     rcases ie_ H with ⟨c7, H⟩ | ⟨c7, H⟩
     ·have c7b0 : (((rd_T70 l0 x10_1).f1).toList == a1.toList) = true := beq_iff_eq.mpr c7
      have c7b1 : (((rd_T70 l0 x10_1).f1).toList != a1.toList) = false := bne_eq_false_iff_eq.mpr c7
      clear c7; have H' := zA H; clear H
      have p742 : 0 ≤ (x10_1 : Int) := dz_
      have q742 : x10_1 < (l0.length : Int) := dz_
      obtain ⟨ad742, e742, hx742_0, hx742_1⟩ := at_T70 HR0.out x10_1 p742 q742
      cases e742
      replace hx742_0 := cup_ HB.out hx742_0; replace hx742_1 := cup_ HB.out hx742_1
      replace p742 := eq_true p742
      replace q742 := eq_true q742
      go_wp2_with (((with_reducible refine gate_dst (N := 7) rfl ?_); refine bx_ 7 #[.int .i64 0, .string (⟨#[]⟩ : ByteArray)] 70 ?_; intro gb743 hg w8 hbox hb; have BK743 := zA (hbox); have GW743 := zA ((zz38 : w.heap.size ≤ gb743)); have GE743 := zA ((zz38 : w.heap.size ≤ gb743)); replace HB := zA zz4; clear hb hbox hg; obtain ⟨hcz9_0, hcz9_1, hfz9_0, hfz9_1⟩ := bk2_ BK743.out))
      go_roundg k1
      case measure => have := HK1.out; omega
      case rel => exact ⟨(wrap64 (x5_1 + 1)), (wrap64 (x10_1 + 1)), zz9, zz9, H', ⟨by have := HK1.out; omega⟩, ⟨(zz7 GE743.out)⟩⟩
     ·have c7b0 : (((rd_T70 l0 x10_1).f1).toList == a1.toList) = false := beq_eq_false_iff_ne.mpr c7
      have c7b1 : (((rd_T70 l0 x10_1).f1).toList != a1.toList) = true := bne_iff_ne.mpr c7
      have H' := zA H; clear H
      have p742 : 0 ≤ (x10_1 : Int) := dz_
      have q742 : x10_1 < (l0.length : Int) := dz_
      obtain ⟨ad742, e742, hx742_0, hx742_1⟩ := at_T70 HR0.out x10_1 p742 q742
      cases e742
      replace hx742_0 := cup_ HB.out hx742_0; replace hx742_1 := cup_ HB.out hx742_1
      replace p742 := eq_true p742
      replace q742 := eq_true q742
      go_wp2_with (((with_reducible refine gate_dst (N := 7) rfl ?_); refine bx_ 7 #[.int .i64 0, .string (⟨#[]⟩ : ByteArray)] 70 ?_; intro gb743 hg w10 hbox hb; have BK743 := zA (hbox); have GW743 := zA ((zz38 : w.heap.size ≤ gb743)); have GE743 := zA ((zz38 : w.heap.size ≤ gb743)); replace HB := zA zz4; clear hb hbox hg; obtain ⟨hcz11_0, hcz11_1, hfz11_0, hfz11_1⟩ := bk2_ BK743.out))
      go_roundg k1
      case measure => have := HK1.out; omega
      case rel => exact ⟨(x5_1), (wrap64 (x10_1 + 1)), zz9, zz9, H', ⟨by have := HK1.out; omega⟩, ⟨(zz7 GE743.out)⟩⟩
    ·have c6b0 : (((rd_T70 l0 x10_1).f0) == 0) = false := beq_eq_false_iff_ne.mpr c6
     have c6b1 : (((rd_T70 l0 x10_1).f0) != 0) = true := bne_iff_ne.mpr c6
     have H' := zA H; clear H
     have p742 : 0 ≤ (x10_1 : Int) := dz_
     have q742 : x10_1 < (l0.length : Int) := dz_
     obtain ⟨ad742, e742, hx742_0, hx742_1⟩ := at_T70 HR0.out x10_1 p742 q742
     cases e742
     replace hx742_0 := cup_ HB.out hx742_0; replace hx742_1 := cup_ HB.out hx742_1
     replace p742 := eq_true p742
     replace q742 := eq_true q742
     go_wp2_with (((with_reducible refine gate_dst (N := 7) rfl ?_); refine bx_ 7 #[.int .i64 0, .string (⟨#[]⟩ : ByteArray)] 70 ?_; intro gb743 hg w12 hbox hb; have BK743 := zA (hbox); have GW743 := zA ((zz38 : w.heap.size ≤ gb743)); have GE743 := zA ((zz38 : w.heap.size ≤ gb743)); replace HB := zA zz4; clear hb hbox hg; obtain ⟨hcz13_0, hcz13_1, hfz13_0, hfz13_1⟩ := bk2_ BK743.out))
     go_roundg k1
     case measure => have := HK1.out; omega
     case rel => exact ⟨(x5_1), (wrap64 (x10_1 + 1)), zz9, zz9, H', ⟨by have := HK1.out; omega⟩, ⟨(zz7 GE743.out)⟩⟩
   ·obtain rfl := Option.some.inj H
    go_wp2
    go_ret
    exact ⟨zz14, zz23⟩

/-! ### spec_SetupCount: function 51 -/
def spec_SetupCount.l0 : Nat → List (S70) → ByteArray → Int → Int → Option (Int)
 | 0, _, _, _, _ => none
 | k + 1, x0, x1, x5, x6 => if x6 < (x0.length : Int) then (if 0 ≤ x6 then (if ((rd_T70 x0 x6).f0) = 0 then (if ((rd_T70 x0 x6).f1).toList = x1.toList then (spec_SetupCount.l0 k x0 x1 (wrap64 (x5 + 1)) (wrap64 (x6 + 1))) else (spec_SetupCount.l0 k x0 x1 x5 (wrap64 (x6 + 1)))) else (spec_SetupCount.l0 k x0 x1 x5 (wrap64 (x6 + 1)))) else (none)) else (some x5)
def spec_SetupCount.f (k : Nat) (l0 : List (S70)) (a1 : ByteArray) : Option (Int) := spec_SetupCount.l0 k l0 a1 0 0
theorem spec_SetupCount.mono_l : ∀ k, (∀ y0 y1 y2 y3, LeO (spec_SetupCount.l0 k y0 y1 y2 y3) (spec_SetupCount.l0 (k + 1) y0 y1 y2 y3))
 | 0 => fun _ _ _ _ r h => by simp [spec_SetupCount.l0] at h
 | k + 1 => by
  have ih0 := spec_SetupCount.mono_l k
  ·intro y0 y1 y2 y3
   unfold spec_SetupCount.l0
   repeat' first | (with_reducible first | exact ih0 _ _ _ _ | exact le1_ | exact le2_ | apply LeO.ite | refine LeO.bind ?_ fun _ => ?_) | apply LeO.ite | refine LeO.bind ?_ fun _ => ?_
theorem spec_SetupCount.mono : ∀ a0 a1 k, LeO (spec_SetupCount.f k a0 a1) (spec_SetupCount.f (k + 1) a0 a1) := by
 intro a0 a1 k
 have ih0 := spec_SetupCount.mono_l k
 unfold spec_SetupCount.f
 repeat' first | (with_reducible first | exact ih0 _ _ _ _ | exact le1_ | exact le2_ | apply LeO.ite | refine LeO.bind ?_ fun _ => ?_) | apply LeO.ite | refine LeO.bind ?_ fun _ => ?_
set_option maxHeartbeats 8000000 in
set_option maxRecDepth 100000 in
theorem spec_SetupCount.calls (k : Nat) (A0 : Option Addr) (c0 : Nat) (l0 : List (S70)) (a1 : ByteArray) (r : Int) (w : World) (hr0 : Kd.C k70 w A0 l0.length l0) (hc0 : l0.length ≤ c0) (h : spec_SetupCount.f k l0 a1 = some r) :
  Calls Try.prog 51 #[.slice A0 l0.length c0, .string a1] w fun e w' => e = .returned (.int .i64 r) ∧ Drawn0 w w' := by
 have HR0 := zA hr0; have HC0 := zA hc0; clear hr0 hc0
 have H : (spec_SetupCount.l0 k l0 a1 0 0) = some r := h
 clear h; have H' := zA H; clear H
 go_enter Try.func51, Try.ntmps51
 go_wp2
 go_loopg [5, 6] k (fun kq v5 v6 w' => ∃ (x5_1 : Int) (x6_1 : Int), v5 = .int .i64 x5_1 ∧ v6 = .int .i64 x6_1 ∧ Aside0 (spec_SetupCount.l0 kq l0 a1 x5_1 x6_1 = some r) ∧ Aside0 (kq ≤ k) ∧ Drawn0 w w')
 case atStart => exact ⟨(0), (0), zz9, zz9, H', ⟨Nat.le_refl _⟩, zz19⟩
 case round =>
  clear H'; try clear p2
  obtain ⟨x5_1, x6_1, rfl, rfl, HA, HK1, ⟨m1, rfl⟩⟩ := hrel
  cases gk with
  | zero => exact absurd HA.out (by simp [spec_SetupCount.l0])
  | succ k1 =>
   have H := HA.out; clear HA
   simp only [spec_SetupCount.l0] at H
   rcases iu_ H with ⟨c3b0, H⟩ | ⟨c3b0, H⟩
   ·obtain ⟨c4b0, H⟩ := it_ H
    rcases ie_ H with ⟨c5, H⟩ | ⟨c5, H⟩
    ·have c5b0 : (((rd_T70 l0 x6_1).f0) == 0) = true := beq_iff_eq.mpr c5
     have c5b1 : (((rd_T70 l0 x6_1).f0) != 0) = false := bne_eq_false_iff_eq.mpr c5
     clear c5
     rcases ie_ H with ⟨c6, H⟩ | ⟨c6, H⟩
     ·have c6b0 : (((rd_T70 l0 x6_1).f1).toList == a1.toList) = true := beq_iff_eq.mpr c6
      have c6b1 : (((rd_T70 l0 x6_1).f1).toList != a1.toList) = false := bne_eq_false_iff_eq.mpr c6
      clear c6; have H' := zA H; clear H
      have p744 : 0 ≤ (x6_1 : Int) := dz_
      have q744 : x6_1 < (l0.length : Int) := dz_
      obtain ⟨ad744, e744, hx744_0, hx744_1⟩ := at_T70 HR0.out x6_1 p744 q744
      cases e744
      replace p744 := eq_true p744
      replace q744 := eq_true q744
      have p745 : 0 ≤ (x6_1 : Int) := dz_
      have q745 : x6_1 < (l0.length : Int) := dz_
      obtain ⟨ad745, e745, hx745_0, hx745_1⟩ := at_T70 HR0.out x6_1 p745 q745
      obtain rfl : ad744 = ad745 := (by injection e745)
      replace p745 := eq_true p745
      replace q745 := eq_true q745
      go_wp2
      go_roundg k1
      case measure => have := HK1.out; omega
      case rel => exact ⟨(wrap64 (x5_1 + 1)), (wrap64 (x6_1 + 1)), zz9, zz9, H', ⟨by have := HK1.out; omega⟩, zz19⟩
     ·have c6b0 : (((rd_T70 l0 x6_1).f1).toList == a1.toList) = false := beq_eq_false_iff_ne.mpr c6
      have c6b1 : (((rd_T70 l0 x6_1).f1).toList != a1.toList) = true := bne_iff_ne.mpr c6
      have H' := zA H; clear H
      have p744 : 0 ≤ (x6_1 : Int) := dz_
      have q744 : x6_1 < (l0.length : Int) := dz_
      obtain ⟨ad744, e744, hx744_0, hx744_1⟩ := at_T70 HR0.out x6_1 p744 q744
      cases e744
      replace p744 := eq_true p744
      replace q744 := eq_true q744
      have p745 : 0 ≤ (x6_1 : Int) := dz_
      have q745 : x6_1 < (l0.length : Int) := dz_
      obtain ⟨ad745, e745, hx745_0, hx745_1⟩ := at_T70 HR0.out x6_1 p745 q745
      obtain rfl : ad744 = ad745 := (by injection e745)
      replace p745 := eq_true p745
      replace q745 := eq_true q745
      go_wp2
      go_roundg k1
      case measure => have := HK1.out; omega
      case rel => exact ⟨(x5_1), (wrap64 (x6_1 + 1)), zz9, zz9, H', ⟨by have := HK1.out; omega⟩, zz19⟩
    ·have c5b0 : (((rd_T70 l0 x6_1).f0) == 0) = false := beq_eq_false_iff_ne.mpr c5
     have c5b1 : (((rd_T70 l0 x6_1).f0) != 0) = true := bne_iff_ne.mpr c5
     have H' := zA H; clear H
     have p744 : 0 ≤ (x6_1 : Int) := dz_
     have q744 : x6_1 < (l0.length : Int) := dz_
     obtain ⟨ad744, e744, hx744_0, hx744_1⟩ := at_T70 HR0.out x6_1 p744 q744
     cases e744
     replace p744 := eq_true p744
     replace q744 := eq_true q744
     go_wp2
     go_roundg k1
     case measure => have := HK1.out; omega
     case rel => exact ⟨(x5_1), (wrap64 (x6_1 + 1)), zz9, zz9, H', ⟨by have := HK1.out; omega⟩, zz19⟩
   ·obtain rfl := Option.some.inj H
    go_wp2
    go_ret
    exact ⟨zz9, zz19⟩

/-! ### laws_hasText: function 52 -/
def laws_hasText.l0 : Nat → List ByteArray → ByteArray → Int → Option (Bool)
 | 0, _, _, _ => none
 | k + 1, x0, x1, x5 => if x5 < (x0.length : Int) then (if 0 ≤ x5 then (if (rdOf ByteArray.empty x0 x5).toList = x1.toList then (some true) else (laws_hasText.l0 k x0 x1 (wrap64 (x5 + 1)))) else (none)) else (some false)
def laws_hasText.f (k : Nat) (l0 : List ByteArray) (a1 : ByteArray) : Option (Bool) := laws_hasText.l0 k l0 a1 0
theorem laws_hasText.mono_l : ∀ k, (∀ y0 y1 y2, LeO (laws_hasText.l0 k y0 y1 y2) (laws_hasText.l0 (k + 1) y0 y1 y2))
 | 0 => fun _ _ _ r h => by simp [laws_hasText.l0] at h
 | k + 1 => by
  have ih0 := laws_hasText.mono_l k
  ·intro y0 y1 y2
   unfold laws_hasText.l0
   repeat' first | (with_reducible first | exact ih0 _ _ _ | exact le1_ | exact le2_ | apply LeO.ite | refine LeO.bind ?_ fun _ => ?_) | apply LeO.ite | refine LeO.bind ?_ fun _ => ?_
theorem laws_hasText.mono : ∀ a0 a1 k, LeO (laws_hasText.f k a0 a1) (laws_hasText.f (k + 1) a0 a1) := by
 intro a0 a1 k
 have ih0 := laws_hasText.mono_l k
 unfold laws_hasText.f
 repeat' first | (with_reducible first | exact ih0 _ _ _ | exact le1_ | exact le2_ | apply LeO.ite | refine LeO.bind ?_ fun _ => ?_) | apply LeO.ite | refine LeO.bind ?_ fun _ => ?_
set_option maxHeartbeats 8000000 in
set_option maxRecDepth 100000 in
theorem laws_hasText.calls (k : Nat) (A0 : Option Addr) (c0 : Nat) (l0 : List ByteArray) (a1 : ByteArray) (r : Bool) (w : World) (hr0 : Kd.C Kd.string w A0 l0.length l0) (hc0 : l0.length ≤ c0) (h : laws_hasText.f k l0 a1 = some r) :
  Calls Try.prog 52 #[.slice A0 l0.length c0, .string a1] w fun e w' => e = .returned (.bool r) ∧ Drawn0 w w' := by
 have HR0 := zA hr0; have HC0 := zA hc0; clear hr0 hc0
 have H : (laws_hasText.l0 k l0 a1 0) = some r := h
 clear h; have H' := zA H; clear H
 go_enter Try.func52, Try.ntmps52
 go_wp2
 go_loopg [5] k (fun kq v5 w' => ∃ (x5_1 : Int), v5 = .int .i64 x5_1 ∧ Aside0 (laws_hasText.l0 kq l0 a1 x5_1 = some r) ∧ Aside0 (kq ≤ k) ∧ Drawn0 w w')
 case atStart => exact ⟨(0), zz9, H', ⟨Nat.le_refl _⟩, zz19⟩
 case round =>
  clear H'; try clear p2
  obtain ⟨x5_1, rfl, HA, HK1, ⟨m1, rfl⟩⟩ := hrel
  cases gk with
  | zero => exact absurd HA.out (by simp [laws_hasText.l0])
  | succ k1 =>
   have H := HA.out; clear HA
   simp only [laws_hasText.l0] at H
   rcases iu_ H with ⟨c3b0, H⟩ | ⟨c3b0, H⟩
   ·obtain ⟨c4b0, H⟩ := it_ H
    rcases ie_ H with ⟨c5, H⟩ | ⟨c5, H⟩
    ·have c5b0 : ((rdOf ByteArray.empty l0 x5_1).toList == a1.toList) = true := beq_iff_eq.mpr c5
     have c5b1 : ((rdOf ByteArray.empty l0 x5_1).toList != a1.toList) = false := bne_eq_false_iff_eq.mpr c5
     clear c5
     obtain rfl := Option.some.inj H
     have p746 : 0 ≤ (x5_1 : Int) := dz_
     have q746 : x5_1 < (l0.length : Int) := dz_
     obtain ⟨ad746, e746, hx746_0⟩ := Kd.at_string HR0.out x5_1 p746 q746
     cases e746
     replace p746 := eq_true p746
     replace q746 := eq_true q746
     go_wp2
     go_ret
     exact ⟨zz9, zz19⟩
    ·have c5b0 : ((rdOf ByteArray.empty l0 x5_1).toList == a1.toList) = false := beq_eq_false_iff_ne.mpr c5
     have c5b1 : ((rdOf ByteArray.empty l0 x5_1).toList != a1.toList) = true := bne_iff_ne.mpr c5
     have H' := zA H; clear H
     have p746 : 0 ≤ (x5_1 : Int) := dz_
     have q746 : x5_1 < (l0.length : Int) := dz_
     obtain ⟨ad746, e746, hx746_0⟩ := Kd.at_string HR0.out x5_1 p746 q746
     cases e746
     replace p746 := eq_true p746
     replace q746 := eq_true q746
     go_wp2
     go_roundg k1
     case measure => have := HK1.out; omega
     case rel => exact ⟨(wrap64 (x5_1 + 1)), zz9, H', ⟨by have := HK1.out; omega⟩, zz19⟩
   ·obtain rfl := Option.some.inj H
    go_wp2
    go_ret
    exact ⟨zz9, zz19⟩

/-! ### laws_FnSetupCount: function 11 -/
def laws_FnSetupCount.l0 : Nat → List (S70) → List ByteArray → Int → Int → Option (Bool)
 | 0, _, _, _, _ => none
 | k + 1, x3, x6, x7, x8 => if x8 < (x3.length : Int) then (if 0 ≤ x8 then ((laws_hasText.f k x6 ((rd_T70 x3 x8).f1)).bind fun t758 => (if t758 = true then (laws_FnSetupCount.l0 k x3 x6 x7 (wrap64 (x8 + 1))) else (if x6.length < 8796093022208 then ((impl_SetupCount.f k x3 ((rd_T70 x3 x8).f1)).bind fun t764 => (laws_FnSetupCount.l0 k x3 (x6 ++ [(rd_T70 x3 x8).f1]) (wrap64 (x7 + t764)) (wrap64 (x8 + 1)))) else (none)))) else (none)) else ((impl_TotalSetups.f k x3).bind fun t756 => (some (x7 == t756)))
def laws_FnSetupCount.f (k : Nat) (l0 : List Int) : Option (Bool) := if (l0.length : Int) > 1048576 then (some true) else ((spec_DrawSetupCount.f k l0).bind fun bt747 => ((impl_SetupCount.f k bt747.1 bt747.2).bind fun t751 => ((spec_SetupCount.f k bt747.1 bt747.2).bind fun t752 => (if t751 = t752 then (laws_FnSetupCount.l0 k bt747.1 (([bt747.2] : List ByteArray)) t751 0) else ((spec_SetupCount.f k bt747.1 bt747.2).bind fun t765 => (some (t751 == t765)))))))
theorem laws_FnSetupCount.mono_l : ∀ k, (∀ y0 y1 y2 y3, LeO (laws_FnSetupCount.l0 k y0 y1 y2 y3) (laws_FnSetupCount.l0 (k + 1) y0 y1 y2 y3))
 | 0 => fun _ _ _ _ r h => by simp [laws_FnSetupCount.l0] at h
 | k + 1 => by
  have ih0 := laws_FnSetupCount.mono_l k
  ·intro y0 y1 y2 y3
   unfold laws_FnSetupCount.l0
   repeat' first | (with_reducible first | exact ih0 _ _ _ _ | exact impl_SetupCount.mono _ _ _ | exact impl_TotalSetups.mono _ _ | exact laws_hasText.mono _ _ _ | exact spec_DrawSetupCount.mono _ _ | exact spec_SetupCount.mono _ _ _ | exact le1_ | exact le2_ | apply LeO.ite | refine LeO.bind ?_ fun _ => ?_) | apply LeO.ite | refine LeO.bind ?_ fun _ => ?_
theorem laws_FnSetupCount.mono : ∀ a0 k, LeO (laws_FnSetupCount.f k a0) (laws_FnSetupCount.f (k + 1) a0) := by
 intro a0 k
 have ih0 := laws_FnSetupCount.mono_l k
 unfold laws_FnSetupCount.f
 repeat' first | (with_reducible first | exact ih0 _ _ _ _ | exact impl_SetupCount.mono _ _ _ | exact impl_TotalSetups.mono _ _ | exact laws_hasText.mono _ _ _ | exact spec_DrawSetupCount.mono _ _ | exact spec_SetupCount.mono _ _ _ | exact le1_ | exact le2_ | apply LeO.ite | refine LeO.bind ?_ fun _ => ?_) | apply LeO.ite | refine LeO.bind ?_ fun _ => ?_
set_option maxHeartbeats 8000000 in
set_option maxRecDepth 100000 in
theorem laws_FnSetupCount.calls (k : Nat) (A0 : Option Addr) (c0 : Nat) (l0 : List Int) (r : Bool) (w : World) (hr0 : Kd.C (Kd.int .u8) w A0 l0.length l0) (hc0 : l0.length ≤ c0) (h : laws_FnSetupCount.f k l0 = some r) :
  Calls Try.prog 11 #[.slice A0 l0.length c0] w fun e w' => e = .returned (.bool r) ∧ Below w.heap.size w w' := by
 have HR0 := zA hr0; have HC0 := zA hc0; clear hr0 hc0; have HB := zA zz2
 have H : (if (l0.length : Int) > 1048576 then (some true) else ((spec_DrawSetupCount.f k l0).bind fun bt747 => ((impl_SetupCount.f k bt747.1 bt747.2).bind fun t751 => ((spec_SetupCount.f k bt747.1 bt747.2).bind fun t752 => (if t751 = t752 then (laws_FnSetupCount.l0 k bt747.1 (([bt747.2] : List ByteArray)) t751 0) else ((spec_SetupCount.f k bt747.1 bt747.2).bind fun t765 => (some (t751 == t765)))))))) = some r := h
 clear h
 rcases ie_ H with ⟨c2, H⟩ | ⟨c2, H⟩
 ·have c2b0 : decide (1048576 < (l0.length : Int)) = true := decide_eq_true c2
  have c2b1 : decide (1048576 < l0.length) = true := decide_eq_true (by omega)
  clear c2
  obtain rfl := Option.some.inj H
  go_enter Try.func11, Try.ntmps11
  go_wp2
  go_ret
  exact ⟨zz14, zz23⟩
 ·have c2b0 : decide (1048576 < (l0.length : Int)) = false := decide_eq_false c2
  have c2b1 : decide (1048576 < l0.length) = false := decide_eq_false (by omega)
  clear c2
  obtain ⟨⟨t747, t748⟩, A3, H⟩ := bs_ H
  (try dsimp only at H)
  obtain ⟨t751, A4, H⟩ := bs_ H
  (try dsimp only at H)
  obtain ⟨t752, A5, H⟩ := bs_ H
  (try dsimp only at H)
  rcases ie_ H with ⟨c6, H⟩ | ⟨c6, H⟩
  ·have c6b0 : (t751 == t752) = true := beq_iff_eq.mpr c6
   have c6b1 : (t751 != t752) = false := bne_eq_false_iff_eq.mpr c6
   clear c6
   obtain ⟨y753, hy753⟩ : ∃ y_ : List ByteArray, y_ = (([t748] : List ByteArray)) := ⟨_, rfl⟩
   replace H : (laws_FnSetupCount.l0 k t747 y753 t751 0) = some r := (zz24 hy753)
   have Ny753 := zA hy753; clear hy753; have H' := zA H; clear H
   go_enter Try.func11, Try.ntmps11
   go_wp2_with (first | ((with_reducible refine gate_callee (f := 49) rfl ?_); refine goesL_ (some 14) rfl rfl Try.func49 (by kernel_rfl) rfl #[.slice A0 l0.length c0] rfl zz17 ?_; (with_reducible refine (spec_DrawSetupCount.calls k _ _ l0 t747 t748 _ ?side1 ?side2 A3.out).mono ?_); (case side1 => exact (zz135 HR0.out)); (case side2 => exact HC0.out); rintro e w7 ⟨v749, rfl, ho0, hb⟩; refine ⟨_, rfl, ?_⟩; have HO750 := zA (zz39 ho0); replace HB := zA zz4; (try clear hb); (try clear ho0); obtain ⟨Ao8, co8, eo8⟩ := Kd.R_slice HO750.out; subst eo8) | ((with_reducible refine gate_callee (f := 50) rfl ?_); refine goesL_ (some 19) rfl rfl Try.func50 (by kernel_rfl) rfl #[.slice Ao8 t747.length co8, .string t748] rfl zz17 ?_; (with_reducible refine (impl_SetupCount.calls k _ _ t747 t748 t751 _ ?side1 ?side2 A4.out).mono ?_); (case side1 => exact (zz20 HO750.out)); (case side2 => exact (zz21 HO750.out)); rintro e w9 ⟨rfl, hb⟩; refine ⟨_, rfl, ?_⟩; replace HO750 := zA (zz33 HO750.out); replace HB := zA zz4; (try clear hb)) | ((with_reducible refine gate_callee (f := 51) rfl ?_); refine goesL_ (some 23) rfl rfl Try.func51 (by kernel_rfl) rfl #[.slice Ao8 t747.length co8, .string t748] rfl zz17 ?_; (with_reducible refine (spec_SetupCount.calls k _ _ t747 t748 t752 _ ?side1 ?side2 A5.out).mono ?_); (case side1 => exact (zz20 HO750.out)); (case side2 => exact (zz21 HO750.out)); rintro e w' ⟨rfl, ⟨nd, rfl⟩⟩; refine ⟨_, rfl, ?_⟩) | ((with_reducible refine gate_dst (N := 33) rfl ?_); refine Kd.R_lit Kd.string _ 9 ?hg (N := 33) ?hd (xs := ([t748] : List ByteArray)) (inner := [.string t748]) (ok := fun _ => True) (okp := fun _ => True) ?hr ?hp (fun _ hk => hk) trivial (Below.refl _ _) (Nat.le_refl _) (by simp) ?_; (case hd => rfl); (case hg => rfl); (case hr => exact zz32); (case hp => exact (Reps.one (show Kd.M Kd.string _ _ _ t748 [.string t748] from rfl) (Reps.none _ _))); intro v754 w10 ho11 hb hg_ hnew_; clear hg_ hnew_; replace ho11 := ny_ Ny753.out ho11; replace HO750 := zA (zz33 HO750.out); have HO755 := zA (zz39 ho11); replace HB := zA zz4; clear hb ho11))
   go_loopg [6, 7, 8] k (fun kq v6 v7 v8 w' => ∃ (x6_1 : List ByteArray) (x7_1 : Int) (x8_1 : Int), v7 = .int .i64 x7_1 ∧ v8 = .int .i64 x8_1 ∧ Aside0 (laws_FnSetupCount.l0 kq t747 x6_1 x7_1 x8_1 = some r) ∧ Aside0 (kq ≤ k) ∧ Aside0 (Kd.R k70 70 w' w.heap.size (fun _ => True) (.slice Ao8 t747.length co8) t747) ∧ Aside0 (Kd.R Kd.string 9 w' w.heap.size (fun _ => True) v6 x6_1) ∧ Aside0 (Below w.heap.size w w'))
   case atStart => exact ⟨(y753), (t751), (0), zz9, zz9, H', ⟨Nat.le_refl _⟩, ⟨(zz22 HO750.out)⟩, ⟨(zz22 HO755.out)⟩, ⟨zz23⟩⟩
   case round =>
    clear H'; try clear c1; try clear c2; try clear c2b0; try clear c2b1; try clear p2; try clear c4; try clear c5; try clear c6; try clear c6b0; try clear c6b1; try clear c11
    obtain ⟨x6_1, x7_1, x8_1, rfl, rfl, HA, HK1, HO_3, HO_6, HB⟩ := hrel
    cases gk with
    | zero => exact absurd HA.out (by simp [laws_FnSetupCount.l0])
    | succ k1 =>
     have H := HA.out; clear HA
     simp only [laws_FnSetupCount.l0] at H
     rcases iu_ H with ⟨c12b0, H⟩ | ⟨c12b0, H⟩
     ·obtain ⟨c13b0, H⟩ := it_ H
      obtain ⟨t758, A14, H⟩ := bs_ H
      (try dsimp only at H)
      by_cases c15 : t758 = true
      ·subst c15
       have H1 : (laws_FnSetupCount.l0 k1 t747 x6_1 x7_1 (wrap64 (x8_1 + 1))) = some r := by rw [if_pos rfl] at H; exact H
       clear H; have H := H1; clear H1; have H' := zA H; clear H
       have p757 : 0 ≤ (x8_1 : Int) := dz_
       have q757 : x8_1 < (t747.length : Int) := dz_
       obtain ⟨ad757, e757, hx757_0, hx757_1⟩ := at_T70 (Kd.R_reads' HO_3.out).2.2 x8_1 p757 q757
       cases e757
       replace p757 := eq_true p757
       replace q757 := eq_true q757
       obtain ⟨Ao16, co16, eo16⟩ := Kd.R_slice HO_6.out
       subst eo16
       go_wp2_with (((with_reducible refine gate_callee (f := 52) rfl ?_); refine goesL_ (some 47) rfl rfl Try.func52 (by kernel_rfl) rfl #[.slice Ao16 x6_1.length co16, .string ((rd_T70 t747 x8_1).f1)] rfl zz17 ?_; (with_reducible refine (laws_hasText.calls k1 _ _ x6_1 ((rd_T70 t747 x8_1).f1) true _ ?side1 ?side2 A14.out).mono ?_); (case side1 => exact (zz20 HO_6.out)); (case side2 => exact (zz21 HO_6.out)); rintro e w' ⟨rfl, ⟨nd, rfl⟩⟩; refine ⟨_, rfl, ?_⟩))
       go_roundg k1
       case measure => have := HK1.out; omega
       case rel => exact ⟨(x6_1), (x7_1), (wrap64 (x8_1 + 1)), zz9, zz9, H', ⟨by have := HK1.out; omega⟩, ⟨(zz22 HO_3.out)⟩, ⟨(zz22 HO_6.out)⟩, ⟨zz23⟩⟩
      ·replace c15 := Bool.eq_false_iff.mpr c15
       subst c15
       have H1 : (if x6_1.length < 8796093022208 then ((impl_SetupCount.f k1 t747 ((rd_T70 t747 x8_1).f1)).bind fun t764 => (laws_FnSetupCount.l0 k1 t747 (x6_1 ++ [(rd_T70 t747 x8_1).f1]) (wrap64 (x7_1 + t764)) (wrap64 (x8_1 + 1)))) else (none)) = some r := by rw [if_neg (show ¬ (false = true) by decide)] at H; exact H
       clear H; have H := H1; clear H1
       obtain ⟨c17, H⟩ := in_ H
       have LMc17 := zA c17; clear c17
       obtain ⟨y760, hy760⟩ : ∃ y_ : List ByteArray, y_ = (x6_1 ++ [(rd_T70 t747 x8_1).f1]) := ⟨_, rfl⟩
       replace H : ((impl_SetupCount.f k1 t747 ((rd_T70 t747 x8_1).f1)).bind fun t764 => (laws_FnSetupCount.l0 k1 t747 y760 (wrap64 (x7_1 + t764)) (wrap64 (x8_1 + 1)))) = some r := (zz24 hy760)
       have Ny760 := zA hy760; clear hy760
       replace H := Option.bind_eq_some_iff.mp H
       obtain ⟨t764, A180, H⟩ := H
       (try dsimp only at H)
       have A18 := zA A180; clear A180; have H' := zA H; clear H
       have p757 : 0 ≤ (x8_1 : Int) := dz_
       have q757 : x8_1 < (t747.length : Int) := dz_
       obtain ⟨ad757, e757, hx757_0, hx757_1⟩ := at_T70 (Kd.R_reads' HO_3.out).2.2 x8_1 p757 q757
       cases e757
       replace p757 := eq_true p757
       replace q757 := eq_true q757
       obtain ⟨Ao19, co19, eo19⟩ := Kd.R_slice HO_6.out
       subst eo19
       go_wp2_with (first | ((with_reducible refine gate_callee (f := 52) rfl ?_); refine goesL_ (some 47) rfl rfl Try.func52 (by kernel_rfl) rfl #[.slice Ao19 x6_1.length co19, .string ((rd_T70 t747 x8_1).f1)] rfl zz17 ?_; (with_reducible refine (laws_hasText.calls k1 _ _ x6_1 ((rd_T70 t747 x8_1).f1) false _ ?side1 ?side2 A14.out).mono ?_); (case side1 => exact (zz20 HO_6.out)); (case side2 => exact (zz21 HO_6.out)); rintro e w' ⟨rfl, ⟨nd, rfl⟩⟩; refine ⟨_, rfl, ?_⟩; have p759 : 0 ≤ (x8_1 : Int) := dz_; have q759 : x8_1 < (t747.length : Int) := dz_; obtain ⟨ad759, e759, hx759_0, hx759_1⟩ := at_T70 (Kd.R_reads' HO_3.out).2.2 x8_1 p759 q759; obtain rfl : ad757 = ad759 := (by injection e759); replace p759 := eq_true p759; replace q759 := eq_true q759) | ((with_reducible refine gate_builtin (b := .append) (xs := #[.tmp 49, .tmp 55]) rfl ?_); at_builtin; refine Kd.R_append Kd.string (w0 := w) w.heap.size rfl (.tmp 49) (.tmp 55) 31 9 (.string ⟨#[]⟩) 16 rfl Try.underlying31 info9 rfl (by decide) (by omega) (.slice Ao19 x6_1.length co19) x6_1 ((rd_T70 t747 x8_1).f1) [.string ((rd_T70 t747 x8_1).f1)] (fun _ => True) (fun _ => False) rfl rfl ?aP (fun _ hk => hk.elim) ?aF ?aO ?aB ?aS ?aL ?_; (case aP => exact rfl); (case aB => exact zz25); (case aF => exact zz163); (case aO => exact (zz26 HO_6.out)); (case aS => exact zz27); (case aL => have := LMc17.out; omega); intro v761 w20 ho hb hg hat; rw [← Ny760.out] at ho; replace HO_3 := zA (zz176 HO_3.out HO_6.out); replace HB := zA (hb); have HO762 := zA (ho); clear HO_6; clear ho hb hg hat; have p763 : 0 ≤ (x8_1 : Int) := dz_; have q763 : x8_1 < (t747.length : Int) := dz_; obtain ⟨ad763, e763, hx763_0, hx763_1⟩ := at_T70 (Kd.R_reads' HO_3.out).2.2 x8_1 p763 q763; obtain rfl : ad757 = ad763 := (by injection e763); replace p763 := eq_true p763; replace q763 := eq_true q763) | ((with_reducible refine gate_callee (f := 50) rfl ?_); refine goesL_ (some 64) rfl rfl Try.func50 (by kernel_rfl) rfl #[.slice (some ad757) t747.length co8, .string ((rd_T70 t747 x8_1).f1)] rfl zz17 ?_; (with_reducible refine (impl_SetupCount.calls k1 _ _ t747 ((rd_T70 t747 x8_1).f1) t764 _ ?side1 ?side2 A18.out).mono ?_); (case side1 => exact (zz20 HO_3.out)); (case side2 => exact (zz21 HO_3.out)); rintro e w21 ⟨rfl, hb⟩; refine ⟨_, rfl, ?_⟩; replace HO_3 := zA (zz33 HO_3.out); replace HO762 := zA (zz33 HO762.out); replace HB := zA zz4; (try clear hb)))
       go_roundg k1
       case measure => have := HK1.out; omega
       case rel => exact ⟨(y760), (wrap64 (x7_1 + t764)), (wrap64 (x8_1 + 1)), zz9, zz9, H', ⟨by have := HK1.out; omega⟩, ⟨(zz22 HO_3.out)⟩, ⟨(zz22 HO762.out)⟩, ⟨zz23⟩⟩
     ·obtain ⟨t756, A22, H⟩ := bs_ H
      (try dsimp only at H)
      obtain rfl := Option.some.inj H
      go_wp2_with (((with_reducible refine gate_callee (f := 41) rfl ?_); refine goesL_ (some 68) rfl rfl Try.func41 (by kernel_rfl) rfl #[.slice Ao8 t747.length co8] rfl zz17 ?_; (with_reducible refine (impl_TotalSetups.calls k1 _ _ t747 t756 _ ?side1 ?side2 A22.out).mono ?_); (case side1 => exact (zz20 HO_3.out)); (case side2 => exact (zz21 HO_3.out)); rintro e w23 ⟨rfl, hb⟩; refine ⟨_, rfl, ?_⟩; replace HO_3 := zA (zz33 HO_3.out); replace HO_6 := zA (zz33 HO_6.out); replace HB := zA zz4; (try clear hb)))
      go_ret
      exact ⟨zz14, zz23⟩
  ·have c6b0 : (t751 == t752) = false := beq_eq_false_iff_ne.mpr c6
   have c6b1 : (t751 != t752) = true := bne_iff_ne.mpr c6
   obtain ⟨t765, A24, H⟩ := bs_ H
   (try dsimp only at H)
   obtain rfl := Option.some.inj H
   go_enter Try.func11, Try.ntmps11
   go_wp2_with (first | ((with_reducible refine gate_callee (f := 49) rfl ?_); refine goesL_ (some 14) rfl rfl Try.func49 (by kernel_rfl) rfl #[.slice A0 l0.length c0] rfl zz17 ?_; (with_reducible refine (spec_DrawSetupCount.calls k _ _ l0 t747 t748 _ ?side1 ?side2 A3.out).mono ?_); (case side1 => exact (zz135 HR0.out)); (case side2 => exact HC0.out); rintro e w25 ⟨v749, rfl, ho0, hb⟩; refine ⟨_, rfl, ?_⟩; have HO750 := zA (zz39 ho0); replace HB := zA zz4; (try clear hb); (try clear ho0); obtain ⟨Ao26, co26, eo26⟩ := Kd.R_slice HO750.out; subst eo26) | ((with_reducible refine gate_callee (f := 50) rfl ?_); refine goesL_ (some 19) rfl rfl Try.func50 (by kernel_rfl) rfl #[.slice Ao26 t747.length co26, .string t748] rfl zz17 ?_; (with_reducible refine (impl_SetupCount.calls k _ _ t747 t748 t751 _ ?side1 ?side2 A4.out).mono ?_); (case side1 => exact (zz20 HO750.out)); (case side2 => exact (zz21 HO750.out)); rintro e w27 ⟨rfl, hb⟩; refine ⟨_, rfl, ?_⟩; replace HO750 := zA (zz33 HO750.out); replace HB := zA zz4; (try clear hb)) | ((with_reducible refine gate_callee (f := 51) rfl ?_); refine goesL_ (some 23) rfl rfl Try.func51 (by kernel_rfl) rfl #[.slice Ao26 t747.length co26, .string t748] rfl zz17 ?_; (with_reducible refine (spec_SetupCount.calls k _ _ t747 t748 t752 _ ?side1 ?side2 A5.out).mono ?_); (case side1 => exact (zz20 HO750.out)); (case side2 => exact (zz21 HO750.out)); rintro e w' ⟨rfl, ⟨nd, rfl⟩⟩; refine ⟨_, rfl, ?_⟩) | ((with_reducible refine gate_callee (f := 51) rfl ?_); refine goesL_ (some 30) rfl rfl Try.func51 (by kernel_rfl) rfl #[.slice Ao26 t747.length co26, .string t748] rfl zz17 ?_; (with_reducible refine (spec_SetupCount.calls k _ _ t747 t748 t765 _ ?side1 ?side2 A24.out).mono ?_); (case side1 => exact (zz20 HO750.out)); (case side2 => exact (zz21 HO750.out)); rintro e w' ⟨rfl, ⟨nd, rfl⟩⟩; refine ⟨_, rfl, ?_⟩))
   go_ret
   exact ⟨zz14, zz23⟩

/-- THE ONE PURE STATEMENT of laws_FnSetupCount: yours. -/
def laws_FnSetupCount.Pure : Prop := ∀ (l0 : List Int), l0.length ≤ maxLen → l0.length * 1 ≤ 140737488351232 → (∀ x ∈ l0, (Lit.int .u8 x).wf = true) → ∃ k, laws_FnSetupCount.f k l0 = some true
theorem laws_FnSetupCount.walk (P : laws_FnSetupCount.Pure) (a0 : Option Addr) (len0 cap0 : Nat) (z0 : List Int) (w : World) (w0 : (a0 = none ∧ len0 = 0 ∧ cap0 = 0 ∧ z0 = []) ∨ ∃ x, a0 = some x ∧ len0 ≤ cap0 ∧ cap0 ≤ maxLen ∧ z0.length = cap0 ∧ (∀ i, i < z0.length → w.cell? (x.add i) = some (.int .u8 (z0.getD i 0))) ∧ ∀ n ∈ z0, (Lit.int .u8 n).wf = true) (y0 : len0 * 1 ≤ 140737488351232) :
  Calls Try.prog 11 #[.slice a0 len0 cap0] w fun e w' => e = .returned (.bool true) ∧ Below w.heap.size w w' := by
 obtain ⟨l0, rfl, hr0, hm0, hw0, hc0⟩ := ReadsInt.ofRowC w0
 obtain ⟨k, h⟩ := P l0 hm0 y0 hw0
 refine (laws_FnSetupCount.calls k _ _ l0 true w (Kd.C_of_reads (d := (0 : Int)) (h1 := fun _ => rfl) hr0) hc0 h).mono ?_
 rintro e w' ⟨rfl, hd⟩
 exact ⟨rfl, hd⟩

end Go.Proofs.Ytieghkchhjailaa.S
