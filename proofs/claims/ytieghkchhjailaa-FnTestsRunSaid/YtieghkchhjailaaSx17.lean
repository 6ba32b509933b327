-- WRITTEN by wip/ext.py
import Derived.Test.YtieghkchhjailaaSx0
import Derived.Test.YtieghkchhjailaaSx1
import Derived.Test.YtieghkchhjailaaSx16
namespace Go.Proofs.Ytieghkchhjailaa.S
open Go.RowKit Go.Proofs.YtieghkchhjailaaW.PrintWords Go.Proofs.YtieghkchhjailaaW.PrintLast Go.Proofs.YtieghkchhjailaaW.PrintMore
attribute [local go_sem] max2_int min2_int max_two min_two max_three min_three max_four min_four   -- for this text's walks alone
set_option linter.unusedVariables false
set_option linter.unusedSimpArgs false

/-! ### spec_DrawTotalSetups: function 40 -/
def spec_DrawTotalSetups.f (k : Nat) (l0 : List Int) : Option ((List (S70))) := (spec_newReader.f l0).bind fun bt631 => ((spec_someEvents.f k bt631.1 bt631.2).bind fun bt634 => (some bt634.2.2.1))
theorem spec_DrawTotalSetups.mono : ∀ a0 k, LeO (spec_DrawTotalSetups.f k a0) (spec_DrawTotalSetups.f (k + 1) a0) := by
 intro a0 k
 unfold spec_DrawTotalSetups.f
 repeat' first | (with_reducible first | exact spec_someEvents.mono _ _ _ | exact le1_ | exact le2_ | apply LeO.ite | refine LeO.bind ?_ fun _ => ?_) | apply LeO.ite | refine LeO.bind ?_ fun _ => ?_
set_option maxHeartbeats 8000000 in
set_option maxRecDepth 100000 in
theorem spec_DrawTotalSetups.calls (k : Nat) (A0 : Option Addr) (c0 : Nat) (l0 : List Int) (r : List (S70)) (w : World) (hr0 : Kd.C (Kd.int .u8) w A0 l0.length l0) (hc0 : l0.length ≤ c0) (h : spec_DrawTotalSetups.f k l0 = some r) :
  Calls Try.prog 40 #[.slice A0 l0.length c0] w fun e w' => ∃ v0_ : Value, e = .returned (v0_) ∧ Kd.R k70 70 w' w.heap.size (fun _ => True) v0_ r ∧ Below w.heap.size w w' := by
 have hu108 := Try.underlying108; have HR0 := zA hr0; have HC0 := zA hc0; clear hr0 hc0; have HB := zA zz2
 have H : ((spec_newReader.f l0).bind fun bt631 => ((spec_someEvents.f k bt631.1 bt631.2).bind fun bt634 => (some bt634.2.2.1))) = some r := h
 clear h
 obtain ⟨⟨t631, t632⟩, A2, H⟩ := bs_ H
 (try dsimp only at H)
 obtain ⟨⟨t634, t637, t640, t643⟩, A3, H⟩ := bs_ H
 (try dsimp only at H)
 obtain rfl := Option.some.inj H
 go_enter Try.func40, Try.ntmps40
 go_wp2_with (first | ((with_reducible refine gate_callee (f := 75) rfl ?_); refine goesL_ (some 7) rfl rfl Try.func75 (by kernel_rfl) rfl #[.slice A0 l0.length c0] rfl zz17 ?_; (with_reducible refine (spec_newReader.calls _ _ l0 t631 t632 w _ ?side1 ?side2 ?side3 A2.out).mono ?_); (case side1 => exact zz23); (case side2 => exact HR0.out); (case side3 => exact HC0.out); rintro e w4 ⟨g633, rfl, hi, hb, hb2⟩; refine ⟨_, rfl, ?_⟩; replace HB := zA (hb); have HI633 := zA (hi); (try clear hb); (try clear hb2); (try clear hi)) | ((with_reducible refine gate_callee (f := 84) rfl ?_); refine goesL_ (some 8) rfl rfl Try.func84 (by kernel_rfl) rfl #[.pointer (some ⟨g633, 0, none⟩)] rfl zz17 ?_; (with_reducible refine (spec_someEvents.calls k g633 t631 t632 t634 t637 t640 t643 w _ ?side1 ?side2 A3.out).mono ?_); (case side1 => exact (zz11 HI633.out)); (case side2 => exact (zz13 HI633.out)); rintro e w5 ⟨v635, v638, v641, rfl, ho0, ho1, ho2, hi, hb, hk⟩; refine ⟨_, rfl, ?_⟩; have HO636 := zA (Kd.N_lower (Kd.N_mono (ok' := fun k_ => some k_ ≠ (v638 : Value).ownBlock ∧ some k_ ≠ (v641 : Value).ownBlock ∧ k_ ≠ g633) ho0 (fun k_ hk_ => ⟨hk_.2.1, hk_.2.2, (IsS120.fresh (zz36 HI633.out) k_ hk_.1)⟩)) (below_size (zz61 HI633.out))); have HO639 := zA (Kd.N_lower (Kd.N_mono (ok' := fun k_ => some k_ ≠ (v635 : Value).ownBlock ∧ some k_ ≠ (v641 : Value).ownBlock ∧ k_ ≠ g633) ho1 (fun k_ hk_ => ⟨hk_.2.1, hk_.2.2, (IsS120.fresh (zz36 HI633.out) k_ hk_.1)⟩)) (below_size (zz61 HI633.out))); have HO642 := zA (Kd.R_lower (Kd.R_mono (ok' := fun k_ => True) ho2 (fun _ hk_ => trivial)) (below_size (zz61 HI633.out))); replace HB := zA (hb); replace HI633 := zA (hi); (try clear hb); (try clear hk); (try clear hi); (try clear ho0); (try clear ho1); (try clear ho2)) | ((with_reducible refine gate_dst (N := 3) rfl ?_); refine bx_ 3 #[.slice none 0 0, .slice none 0 0] 108 ?_; intro gb644 hg w6 hbox hb; replace HO636 := zA (Kd.N_below (Kd.N_elderB (zz131 HO636.out) gb644 (Nat.le_of_eq hg.symm)) hb); replace HO639 := zA (Kd.N_below (Kd.N_elderB (zz131 HO639.out) gb644 (Nat.le_of_eq hg.symm)) hb); replace HO642 := zA (zz33 HO642.out); have BK644 := zA (hbox); have GW644 := zA ((by rw [hg]; exact (below_size (zz61 HI633.out)) : w.heap.size ≤ gb644)); have GE644 := zA ((by rw [hg]; exact (below_size (zz61 HI633.out)) : w.heap.size ≤ gb644)); replace HB := zA (zz30 HI633.out); have NB633_644 := zA ((by rw [hg]; exact Nat.ne_of_lt (IsS120.lt (show IsS120 w _ g633 t631 _ from by repeat (first | (with_reducible first | exact HI633.out | apply IsS120.alloc | apply IsS120.drewN | apply IsS120.drew | apply IsS120.set_1) | exact HI633.out))) : g633 ≠ gb644)); have NB644_633 := zA ((by rw [hg]; exact Nat.ne_of_gt (IsS120.lt (show IsS120 w _ g633 t631 _ from by repeat (first | (with_reducible first | exact HI633.out | apply IsS120.alloc | apply IsS120.drewN | apply IsS120.drew | apply IsS120.set_1) | exact HI633.out))) : gb644 ≠ g633)); replace HI633 := zA (zz31 HI633.out); clear hb hbox hg; obtain ⟨Ao7, co7, eo7⟩ := Kd.N_slice HO636.out; subst eo7; have hnb8 := NB644_633.out; have hnc8 := NB633_644.out; obtain ⟨hcz9_0, hcz9_1, hfz9_0, hfz9_1⟩ := bk2_ BK644.out; obtain ⟨Ao10, co10, eo10⟩ := Kd.N_slice HO639.out; subst eo10))
 go_ret
 exact ⟨_, zz14, by (with_reducible repeat first | apply Kd.R_alloc | apply Kd.R_drewN | apply Kd.R_drew); exact Kd.R_mono (Kd.R_far (p := ⟨gb644, 1, none⟩) (Kd.R_far (p := ⟨gb644, 0, none⟩) (Kd.R_types HO642.out BK644.out (by decide)) (fun _ hk => hk.2) (.slice Ao7 t634.length co7)) (fun _ hk => hk.2) (.slice Ao10 t637.length co10)) (fun _ hk => trivial), (zz76 HI633.out GE644.out)⟩

end Go.Proofs.Ytieghkchhjailaa.S
