-- WRITTEN by wip/ext.py
import Derived.Test.YtdllommmccgleaaEx0
import Derived.Test.YtdllommmccgleaaEx2
import Derived.Test.YtdllommmccgleaaEx3
import Derived.Test.YtdllommmccgleaaEx19
import Derived.Test.YtdllommmccgleaaEx30
import Derived.Test.YtdllommmccgleaaEx31
import Derived.Test.YtdllommmccgleaaEx33
namespace Go.Proofs.Ytdllommmccgleaa.E
open Go.RowKit Go.Proofs.YtdllommmccgleaaW.PrintWords Go.Proofs.YtdllommmccgleaaW.PrintLast Go.Proofs.YtdllommmccgleaaW.PrintMore
attribute [local go_sem] max2_int min2_int max_two min_two max_three min_three max_four min_four   -- for this text's walks alone
set_option linter.unusedVariables false
set_option linter.unusedSimpArgs false

/-! ### impl_chosen: function 66 -/
mutual
def impl_chosen.j0 : Nat → List (S28) → Bool → Bool → ByteArray → List (S55) → Option ((List (S28)))
 | 0, _, _, _, _, _ => none
 | k + 1, x0, x2, x23, x792000, x792001 => if x23 = true then (some ([] : List (S28))) else (impl_chosen.l0 k x2 (([] : List (S28))) x0 (x0.length : Int) 0 x792000 x792001)
def impl_chosen.l0 : Nat → Bool → List (S28) → List (S28) → Int → Int → ByteArray → List (S55) → Option ((List (S28)))
 | 0, _, _, _, _, _, _, _ => none
 | k + 1, x2, x9, x25, x26, x27, x792000, x792001 => if x27 < x26 then (if 0 ≤ x27 then (if x27 < (x25.length : Int) then ((impl_expr_holds.f k x792000 x792001 ((rd_T28 x25 x27).f0) ((rd_T28 x25 x27).f2)).bind fun t798 => (if (t798 == x2) = true then (if x9.length < 1759218604441 then (impl_chosen.l0 k x2 (x9 ++ [(⟨(rd_T28 x25 x27).f0, (rd_T28 x25 x27).f1, (rd_T28 x25 x27).f2, (rd_T28 x25 x27).f3⟩ : S28)]) x25 x26 (wrap64 (x27 + 1)) x792000 x792001) else (none)) else (impl_chosen.l0 k x2 x9 x25 x26 (wrap64 (x27 + 1)) x792000 x792001))) else (none)) else (none)) else ((impl_copyTests.f k x9).bind fun t802 => (some t802))
end
def impl_chosen.f (k : Nat) (l0 : List (S28)) (a1 : ByteArray) (a2 : Bool) : Option ((List (S28))) := (impl_readExpr.f k a1).bind fun bt786 => (if bt786.2.2 = true then ((impl_ValidTests.f k l0).bind fun t792 => (impl_chosen.j0 k l0 a2 (!t792) bt786.1 bt786.2.1)) else (impl_chosen.j0 k l0 a2 true bt786.1 bt786.2.1))
theorem impl_chosen.mono_l : ∀ k, (∀ y0 y1 y2 y3 y4, LeO (impl_chosen.j0 k y0 y1 y2 y3 y4) (impl_chosen.j0 (k + 1) y0 y1 y2 y3 y4)) ∧ (∀ y0 y1 y2 y3 y4 y5 y6, LeO (impl_chosen.l0 k y0 y1 y2 y3 y4 y5 y6) (impl_chosen.l0 (k + 1) y0 y1 y2 y3 y4 y5 y6))
 | 0 => ⟨fun _ _ _ _ _ r h => by simp [impl_chosen.j0] at h, fun _ _ _ _ _ _ _ r h => by simp [impl_chosen.l0] at h⟩
 | k + 1 => by
  obtain ⟨ih0, ih1⟩ := impl_chosen.mono_l k
  refine ⟨?_, ?_⟩
  ·intro y0 y1 y2 y3 y4
   unfold impl_chosen.j0
   repeat' first
   | (with_reducible exact ih0 _ _ _ _ _)
   | (with_reducible exact ih1 _ _ _ _ _ _ _)
   | (with_reducible exact impl_ValidTests.mono _ _)
   | (with_reducible exact impl_copyTests.mono _ _)
   | (with_reducible exact impl_expr_holds.mono _ _ _ _ _)
   | (with_reducible exact impl_readExpr.mono _ _)
   | (with_reducible exact LeO.refl _)
   | (with_reducible exact LeO.none _)
   | (with_reducible refine LeO.ite ?_ ?_)
   | (with_reducible refine LeO.bind ?_ (fun _ => ?_))
   | refine LeO.ite ?_ ?_
   | refine LeO.bind ?_ (fun _ => ?_)
  ·intro y0 y1 y2 y3 y4 y5 y6
   unfold impl_chosen.l0
   repeat' first
   | (with_reducible exact ih0 _ _ _ _ _)
   | (with_reducible exact ih1 _ _ _ _ _ _ _)
   | (with_reducible exact impl_ValidTests.mono _ _)
   | (with_reducible exact impl_copyTests.mono _ _)
   | (with_reducible exact impl_expr_holds.mono _ _ _ _ _)
   | (with_reducible exact impl_readExpr.mono _ _)
   | (with_reducible exact LeO.refl _)
   | (with_reducible exact LeO.none _)
   | (with_reducible refine LeO.ite ?_ ?_)
   | (with_reducible refine LeO.bind ?_ (fun _ => ?_))
   | refine LeO.ite ?_ ?_
   | refine LeO.bind ?_ (fun _ => ?_)
theorem impl_chosen.mono : ∀ a0 a1 a2 k, LeO (impl_chosen.f k a0 a1 a2) (impl_chosen.f (k + 1) a0 a1 a2) := by
 intro a0 a1 a2 k
 obtain ⟨ih0, ih1⟩ := impl_chosen.mono_l k
 unfold impl_chosen.f
 repeat' first
   | (with_reducible exact ih0 _ _ _ _ _)
   | (with_reducible exact ih1 _ _ _ _ _ _ _)
   | (with_reducible exact impl_ValidTests.mono _ _)
   | (with_reducible exact impl_copyTests.mono _ _)
   | (with_reducible exact impl_expr_holds.mono _ _ _ _ _)
   | (with_reducible exact impl_readExpr.mono _ _)
   | (with_reducible exact LeO.refl _)
   | (with_reducible exact LeO.none _)
   | (with_reducible refine LeO.ite ?_ ?_)
   | (with_reducible refine LeO.bind ?_ (fun _ => ?_))
   | refine LeO.ite ?_ ?_
   | refine LeO.bind ?_ (fun _ => ?_)
set_option maxHeartbeats 8000000 in
set_option maxRecDepth 100000 in
theorem impl_chosen.calls (k : Nat) (P0_ : Nat → Prop) (A0 : Option Addr) (c0 : Nat) (l0 : List (S28)) (a1 : ByteArray) (a2 : Bool) (r : List (S28)) (w : World) (hs0 : Kd.V k28 28 w w.heap.size (fun k_ => P0_ k_) (.slice A0 l0.length c0) l0) (h : impl_chosen.f k l0 a1 a2 = some r) :
  Calls Try.prog 66 #[.slice A0 l0.length c0, .string a1, .bool a2] w fun e w' => ∃ v0_ : Value, e = .returned (v0_) ∧ Kd.N k28 28 w' w.heap.size (fun k_ => (P0_ k_ ∨ w.heap.size ≤ k_)) v0_ r ∧ Below w.heap.size w w' := by
 have hu55 := Try.underlying55; have hu28 := Try.underlying28; have HO0 := Aside0.mk (show Kd.V k28 28 w w.heap.size (fun k_ => (P0_ k_ ∨ w.heap.size ≤ k_)) (.slice A0 l0.length c0) l0 from Kd.V_mono hs0 (fun k_ hk => .inl hk)); have HB := Aside0.mk (Below.refl w.heap.size w)
 have H : ((impl_readExpr.f k a1).bind fun bt786 => (if bt786.2.2 = true then ((impl_ValidTests.f k l0).bind fun t792 => (impl_chosen.j0 k l0 a2 (!t792) bt786.1 bt786.2.1)) else (impl_chosen.j0 k l0 a2 true bt786.1 bt786.2.1))) = some r := h
 clear h
 replace H := Option.bind_eq_some_iff.mp H
 obtain ⟨⟨t786, t787, t790⟩, A40, H⟩ := H
 replace H : (if t790 = true then ((impl_ValidTests.f k l0).bind fun t792 => (impl_chosen.j0 k l0 a2 (!t792) t786 t787)) else (impl_chosen.j0 k l0 a2 true t786 t787)) = some r := H
 have A4 := Aside0.mk A40; clear A40; have HC5 := Aside0.mk H; clear H
 go_enter Try.func66, Try.ntmps66
 go_upto_region 2 with (first | ((with_reducible refine gate_callee (f := 46) rfl ?_); refine goesL_ (some 14) rfl rfl Try.func46 (by kernel_rfl) rfl #[.string a1] rfl (by (try simp only [List.map_toArray, List.map_cons, List.map_nil]); first | done | rfl) ?_; (with_reducible refine (impl_readExpr.calls k a1 t786 t787 t790 _ A4.out).mono ?_); rintro e w6 ⟨v788, rfl, ho0, hb⟩; refine ⟨_, rfl, ?_⟩; replace HO0 := Aside0.mk (Kd.V_elder' (by (with_reducible repeat (first | apply Kd.V_alloc | apply Kd.V_drewN | apply Kd.V_drew)); exact HO0.out) (Kd.R_base ho0) hb); have HO789 := Aside0.mk (Kd.N_lower (Kd.N_mono (ok' := fun k_ => (P0_ k_ ∨ w.heap.size ≤ k_)) (Kd.R_N (Kd.R_bound ho0)) (fun k_ hk_ => (.inr (Nat.le_trans (below_size (by repeat first | (with_reducible first | exact HB.out | apply below_alloc | apply pw_below_drewN | apply below_drew1) | exact HB.out)) hk_.2.1)))) (below_size (by repeat first | (with_reducible first | exact HB.out | apply below_alloc | apply pw_below_drewN | apply below_drew1) | exact HB.out))); replace HB := Aside0.mk (below_step (by repeat first | (with_reducible first | exact HB.out | apply below_alloc | apply pw_below_drewN | apply below_drew1) | exact HB.out) hb); (try clear hb); (try clear ho0)) | ((with_reducible refine gate_dst (N := 7) rfl ?_); refine box_event ?hg (N := 7) ?hd (cs := #[.string (⟨#[]⟩ : ByteArray), .slice none 0 0]) (t := 55) ?hr ?_; (case hd => rfl); (case hg => rfl); (case hr => first | (go_simp; done) | (go_simp; rfl)); intro gb791 hg w7 hbox hb; replace HO0 := Aside0.mk (Kd.V_below (Kd.V_elderB (by (with_reducible repeat (first | apply Kd.V_alloc | apply Kd.V_drewN | apply Kd.V_drew)); exact HO0.out) gb791 (Nat.le_of_eq hg.symm)) hb); replace HO789 := Aside0.mk (Kd.N_below (Kd.N_elderB (by (with_reducible repeat (first | apply Kd.N_alloc | apply Kd.N_drewN | apply Kd.N_drew)); exact HO789.out) gb791 (Nat.le_of_eq hg.symm)) hb); have BK791 := Aside0.mk (hbox); have GW791 := Aside0.mk ((by rw [hg]; exact (below_size (by repeat first | (with_reducible first | exact HB.out | apply below_alloc | apply pw_below_drewN | apply below_drew1) | exact HB.out)) : w.heap.size ≤ gb791)); have GE791 := Aside0.mk ((by rw [hg]; exact (below_size (by repeat first | (with_reducible first | exact HB.out | apply below_alloc | apply pw_below_drewN | apply below_drew1) | exact HB.out)) : w.heap.size ≤ gb791)); replace HB := Aside0.mk (below_step (by repeat first | (with_reducible first | exact HB.out | apply below_alloc | apply pw_below_drewN | apply below_drew1) | exact HB.out) hb); clear hb hbox hg; have hcz8_0 : w7.cell? ⟨gb791, 0, none⟩ = some (.string (⟨#[]⟩ : ByteArray)) := (blk_cell BK791.out 0).trans rfl; have hcz8_1 : w7.cell? ⟨gb791, 1, none⟩ = some (.slice none 0 0) := (blk_cell BK791.out 1).trans rfl; have hfz8_0 := blk_frozen BK791.out 0; have hfz8_1 := blk_frozen BK791.out 1; obtain ⟨Ao9, co9, eo9⟩ := Kd.N_slice HO789.out; subst eo9))
 (try simp only [Act.put, List.setIfInBounds_toArray, List.set_cons_zero, List.set_cons_succ])
 go_cut [23] (fun v23 wc => ∃ (kq : Nat) (x23_4 : Bool), v23 = .bool x23_4 ∧ Aside0 (impl_chosen.j0 kq l0 a2 x23_4 t786 t787 = some r) ∧ Aside0 (kq ≤ k) ∧ Aside0 (Kd.V k28 28 wc w.heap.size (fun k_ => (P0_ k_ ∨ w.heap.size ≤ k_) ∧ some k_ ≠ ((.slice Ao9 t787.length co9) : Value).ownBlock ∧ k_ ≠ gb791) (.slice A0 l0.length c0) l0) ∧ Aside0 (Kd.N k55 55 wc w.heap.size (fun k_ => (P0_ k_ ∨ w.heap.size ≤ k_) ∧ k_ ≠ gb791) (.slice Ao9 t787.length co9) t787) ∧ Aside0 (wc.heap[gb791]? = some (.cells #[.string t786, (.slice Ao9 t787.length co9)] 55 (0, 0))) ∧ Aside0 (Below w.heap.size w wc))
 case first =>
  have H := HC5.out; clear HC5
  by_cases c10 : t790 = true
  ·subst c10
   have H1 : ((impl_ValidTests.f k l0).bind fun t792 => (impl_chosen.j0 k l0 a2 (!t792) t786 t787)) = some r := by rw [if_pos rfl] at H; exact H
   clear H; have H := H1; clear H1
   replace H := Option.bind_eq_some_iff.mp H
   obtain ⟨t792, A110, H⟩ := H
   replace H : (impl_chosen.j0 k l0 a2 (!t792) t786 t787) = some r := H
   have A11 := Aside0.mk A110; clear A110; have H' := Aside0.mk H; clear H
   go_wp2_with (first | (go_at_call 39; (with_reducible refine (impl_ValidTests.calls k _ _ l0 t792 _ ?side1 ?side2 A11.out).mono ?_); (case side1 => refine (Kd.V_reads' (e := 28) (base := w.heap.size) (ok := fun k_ => (((P0_ k_ ∨ w.heap.size ≤ k_) ∧ some k_ ≠ (.slice Ao9 t787.length co9 : Value).ownBlock) ∧ k_ ≠ gb791)) (n := l0.length) (c := c0) ?_).2.2; exact (by (with_reducible repeat (first | apply Kd.V_alloc | apply Kd.V_drewN | apply Kd.V_drew)); exact (Kd.V_mono (Kd.V_far (p := ⟨gb791, 1, none⟩) (Kd.V_far (p := ⟨gb791, 0, none⟩) (Kd.V_mono HO0.out (fun k_ hk => (⟨hk, hk.2⟩ : _ ∧ k_ ≠ gb791))) (fun _ hk => hk.2) (.string t786)) (fun _ hk => hk.2) (.slice Ao9 t787.length co9)) (fun _ h_ => h_.1)))); (case side2 => exact (Kd.V_reads' HO0.out).2.1); rintro e w12 ⟨rfl, hb⟩; replace HO0 := Aside0.mk (Kd.V_below (by (with_reducible repeat (first | apply Kd.V_alloc | apply Kd.V_drewN | apply Kd.V_drew)); exact (Kd.V_mono (Kd.V_far (p := ⟨gb791, 1, none⟩) (Kd.V_far (p := ⟨gb791, 0, none⟩) (Kd.V_mono HO0.out (fun k_ hk => (⟨hk, hk.2⟩ : _ ∧ k_ ≠ gb791))) (fun _ hk => hk.2) (.string t786)) (fun _ hk => hk.2) (.slice Ao9 t787.length co9)) (fun _ h_ => h_.1))) hb); replace HO789 := Aside0.mk (Kd.N_below (by (with_reducible repeat (first | apply Kd.N_alloc | apply Kd.N_drewN | apply Kd.N_drew)); exact (Kd.N_mono (Kd.N_far (p := ⟨gb791, 1, none⟩) (Kd.N_far (p := ⟨gb791, 0, none⟩) (Kd.N_mono HO789.out (fun k_ hk => (⟨hk, hk.2⟩ : _ ∧ k_ ≠ gb791))) (fun _ hk => hk.2) (.string t786)) (fun _ hk => hk.2) (.slice Ao9 t787.length co9)) (fun _ h_ => h_.1))) hb); replace BK791 := Aside0.mk (blk_below (g := gb791) (o := .cells #[.string t786, .slice Ao9 t787.length co9] 55 (0, 0)) (by (with_reducible repeat first | apply blk_drewN | apply blk_drew | apply blk_alloc); refine blk_put (cs := #[.string t786, .slice none 0 0]) ?_ 1 _ rfl; (with_reducible repeat first | apply blk_drewN | apply blk_drew | apply blk_alloc); refine blk_put (cs := #[.string (⟨#[]⟩ : ByteArray), .slice none 0 0]) ?_ 0 _ rfl; (with_reducible repeat first | apply blk_drewN | apply blk_drew | apply blk_alloc); exact BK791.out) hb); replace HB := Aside0.mk (below_step (by repeat first | (with_reducible first | exact HB.out | apply below_alloc | apply pw_below_drewN | apply below_drew1 | refine below_set ?_ GE791.out) | exact HB.out) hb); (try clear hb)))
   go_meet
   case rel => exact ⟨_, (!t792), (by first | rfl | (simp; done) | (simp [*]; done)), H', ⟨by first | omega | exact Nat.le_refl _⟩, ⟨by (with_reducible repeat (first | apply Kd.V_alloc | apply Kd.V_drewN | apply Kd.V_drew)); exact Kd.V_mono HO0.out (fun _ hk => ⟨hk.1.1, ⟨hk.1.2, hk.2⟩⟩)⟩, ⟨by (with_reducible repeat (first | apply Kd.N_alloc | apply Kd.N_drewN | apply Kd.N_drew)); exact HO789.out⟩, ⟨by (with_reducible repeat first | apply blk_drewN | apply blk_drew | apply blk_alloc); exact BK791.out⟩, ⟨by repeat (first | (with_reducible first | exact HB.out | apply below_alloc | apply pw_below_drewN | apply below_drew1 | refine below_set ?_ GE791.out) | exact HB.out)⟩⟩
  ·replace c10 := Bool.eq_false_iff.mpr c10
   subst c10
   have H1 : (impl_chosen.j0 k l0 a2 true t786 t787) = some r := by rw [if_neg (show ¬ (false = true) by decide)] at H; exact H
   clear H; have H := H1; clear H1; have H' := Aside0.mk H; clear H
   go_wp2
   go_meet
   case rel => exact ⟨_, (true), (by first | rfl | (simp; done) | (simp [*]; done)), H', ⟨by first | omega | exact Nat.le_refl _⟩, ⟨by (with_reducible repeat (first | apply Kd.V_alloc | apply Kd.V_drewN | apply Kd.V_drew)); exact Kd.V_mono (Kd.V_far (p := ⟨gb791, 1, none⟩) (Kd.V_far (p := ⟨gb791, 0, none⟩) (Kd.V_mono HO0.out (fun k_ hk => (⟨hk, hk.2⟩ : _ ∧ k_ ≠ gb791))) (fun _ hk => hk.2) (.string t786)) (fun _ hk => hk.2) (.slice Ao9 t787.length co9)) (fun _ hk => ⟨hk.1.1.1, ⟨hk.1.1.2, hk.1.2⟩⟩)⟩, ⟨by (with_reducible repeat (first | apply Kd.N_alloc | apply Kd.N_drewN | apply Kd.N_drew)); exact Kd.N_mono (Kd.N_far (p := ⟨gb791, 1, none⟩) (Kd.N_far (p := ⟨gb791, 0, none⟩) (Kd.N_mono HO789.out (fun k_ hk => (⟨hk, hk.2⟩ : _ ∧ k_ ≠ gb791))) (fun _ hk => hk.2) (.string t786)) (fun _ hk => hk.2) (.slice Ao9 t787.length co9)) (fun _ hk => ⟨hk.1.1, hk.1.2⟩)⟩, ⟨by (with_reducible repeat first | apply blk_drewN | apply blk_drew | apply blk_alloc); refine blk_put (cs := #[.string t786, .slice none 0 0]) ?_ 1 _ rfl; (with_reducible repeat first | apply blk_drewN | apply blk_drew | apply blk_alloc); refine blk_put (cs := #[.string (⟨#[]⟩ : ByteArray), .slice none 0 0]) ?_ 0 _ rfl; (with_reducible repeat first | apply blk_drewN | apply blk_drew | apply blk_alloc); exact BK791.out⟩, ⟨by repeat (first | (with_reducible first | exact HB.out | apply below_alloc | apply pw_below_drewN | apply below_drew1 | refine below_set ?_ GE791.out) | exact HB.out)⟩⟩
 case rest =>
  clear HC5; try clear c1; try clear p2; try clear c4; try clear c6; try clear c10; try clear hcz8_0; try clear hcz8_1; try clear hfz8_0; try clear hfz8_1
  obtain ⟨kq, x23_4, rfl, HA, HJ4, HO_0, HO_792001, BK791, HB⟩ := hcut
  cases kq with
  | zero => exact absurd HA.out (by simp [impl_chosen.j0])
  | succ kj4 =>
   have H := HA.out; clear HA
   simp only [impl_chosen.j0] at H
   by_cases c13 : x23_4 = true
   ·subst c13
    have H1 : (some ([] : List (S28))) = some r := by rw [if_pos rfl] at H; exact H
    clear H; have H := H1; clear H1
    obtain rfl := Option.some.inj H
    go_wp2
    go_ret
    exact ⟨_, by first | rfl | (simp [errW_none, errW_some] <;> rfl) | (simp [*, errW_none, errW_some] <;> rfl), by first | exact Kd.S_nil _ _ _ _ _ | exact Kd.N_nil _ _ _ _ _ | exact Kd.V_nil _ _ _ _ _ | exact Kd.Q_nil _ _ _ _ _ | exact Kd.R_nil _ _ _ _ _, by repeat (first | (with_reducible first | exact HB.out | apply below_alloc | apply pw_below_drewN | apply below_drew1 | refine below_set ?_ GE791.out) | exact HB.out)⟩
   ·replace c13 := Bool.eq_false_iff.mpr c13
    subst c13
    have H1 : (impl_chosen.l0 kj4 a2 (([] : List (S28))) l0 (l0.length : Int) 0 t786 t787) = some r := by rw [if_neg (show ¬ (false = true) by decide)] at H; exact H
    clear H; have H := H1; clear H1
    obtain ⟨y793, hy793⟩ : ∃ y_ : List (S28), y_ = (([] : List (S28))) := ⟨_, rfl⟩
    replace H : (impl_chosen.l0 kj4 a2 y793 l0 (l0.length : Int) 0 t786 t787) = some r := by first | (rw [hy793]; with_reducible exact H) | (have H2_ := (Option.bind_some _ _).symm.trans H; rw [hy793]; with_reducible exact H2_) | (have H2_ := (Option.bind_some _ _).symm.trans H; with_reducible exact H2_) | with_reducible exact H | (rw [hy793]; exact H) | exact H
    have Ny793 := Aside0.mk hy793; clear hy793; have H' := Aside0.mk H; clear H
    go_wp2_with (first | ((with_reducible refine gate_dst (N := 24) rfl ?_); refine Kd.N_lit k28 _ 28 ?hg (N' := 24) ?hd (xs := ([] : List (S28))) (inner := []) (ok := (fun k_ => (P0_ k_ ∨ w.heap.size ≤ k_) ∧ some k_ ≠ (.slice Ao9 t787.length co9 : Value).ownBlock ∧ k_ ≠ gb791)) (okp := (fun k_ => (P0_ k_ ∨ w.heap.size ≤ k_) ∧ some k_ ≠ (.slice Ao9 t787.length co9 : Value).ownBlock ∧ k_ ≠ gb791)) ?hr ?hp (fun _ hk => hk) ((show ∀ k_, wc.heap.size ≤ k_ → (fun k_ => (P0_ k_ ∨ w.heap.size ≤ k_) ∧ some k_ ≠ (.slice Ao9 t787.length co9 : Value).ownBlock ∧ k_ ≠ gb791) k_ from fun k_ hk => ⟨(.inr (Nat.le_trans (below_size (by repeat first | (with_reducible first | exact HB.out | apply below_alloc | apply pw_below_drewN | apply below_drew1 | refine below_set ?_ GE791.out) | exact HB.out)) hk)), Kd.fresh' (Kd.N_lt (by (with_reducible repeat (first | apply Kd.N_alloc | apply Kd.N_drewN | apply Kd.N_drew)); exact HO_792001.out)) k_ hk, Kd.freshB (g := gb791) (o := .cells #[.string t786, .slice Ao9 t787.length co9] 55 (0, 0)) (by (with_reducible repeat first | apply blk_drewN | apply blk_drew | apply blk_alloc); exact BK791.out) k_ hk⟩) _ (Nat.le_refl _)) (Below.refl _ _) (Nat.le_refl _) (by simp) ?_; (case hd => rfl); (case hg => rfl); (case hr => first | (go_simp; done) | (go_simp; rfl)); (case hp => exact (Reps.none _ _)); intro v794 w14 ho15 hb hg_ hnew_; clear hg_ hnew_; (first | rw [← Ny793.out] at ho15 | (simp only [Int.reduceToNat] at ho15; rw [← Ny793.out] at ho15)); replace HO_0 := Aside0.mk (Kd.V_elder' (by (with_reducible repeat (first | apply Kd.V_alloc | apply Kd.V_drewN | apply Kd.V_drew)); exact HO_0.out) (Kd.N_base ho15) hb); replace HO_792001 := Aside0.mk (Kd.N_elder' (by (with_reducible repeat (first | apply Kd.N_alloc | apply Kd.N_drewN | apply Kd.N_drew)); exact HO_792001.out) (Kd.N_base ho15) hb); have HO795 := Aside0.mk (Kd.N_lower ho15 (below_size (by repeat first | (with_reducible first | exact HB.out | apply below_alloc | apply pw_below_drewN | apply below_drew1 | refine below_set ?_ GE791.out) | exact HB.out))); replace BK791 := Aside0.mk (blk_below (g := gb791) (o := .cells #[.string t786, .slice Ao9 t787.length co9] 55 (0, 0)) (by (with_reducible repeat first | apply blk_drewN | apply blk_drew | apply blk_alloc); exact BK791.out) hb); replace HB := Aside0.mk (below_step (by repeat first | (with_reducible first | exact HB.out | apply below_alloc | apply pw_below_drewN | apply below_drew1 | refine below_set ?_ GE791.out) | exact HB.out) hb); clear hb ho15))
    go_loopg [9, 27] kj4 (fun kq v9 v27 w' => ∃ (x9_2 : List (S28)) (x27_2 : Int), v27 = .int .i64 x27_2 ∧ Aside0 (impl_chosen.l0 kq a2 x9_2 l0 (l0.length : Int) x27_2 t786 t787 = some r) ∧ Aside0 (kq ≤ kj4) ∧ Aside0 (Kd.N k28 28 w' w.heap.size (fun k_ => (P0_ k_ ∨ w.heap.size ≤ k_) ∧ some k_ ≠ ((.slice Ao9 t787.length co9) : Value).ownBlock ∧ k_ ≠ gb791) v9 x9_2) ∧ Aside0 (Kd.V k28 28 w' w.heap.size (fun k_ => (P0_ k_ ∨ w.heap.size ≤ k_) ∧ some k_ ≠ (v9 : Value).ownBlock ∧ some k_ ≠ ((.slice Ao9 t787.length co9) : Value).ownBlock ∧ k_ ≠ gb791) (.slice A0 l0.length c0) l0) ∧ Aside0 (Kd.N k55 55 w' w.heap.size (fun k_ => (P0_ k_ ∨ w.heap.size ≤ k_) ∧ some k_ ≠ (v9 : Value).ownBlock ∧ k_ ≠ gb791) (.slice Ao9 t787.length co9) t787) ∧ Aside0 (w'.heap[gb791]? = some (.cells #[.string t786, (.slice Ao9 t787.length co9)] 55 (0, 0))) ∧ Aside0 (Below w.heap.size w w'))
    case atStart => exact ⟨(y793), (0), (by first | rfl | (simp; done) | (simp [*]; done)), H', ⟨Nat.le_refl _⟩, ⟨by (with_reducible repeat (first | apply Kd.N_alloc | apply Kd.N_drewN | apply Kd.N_drew)); exact HO795.out⟩, ⟨by (with_reducible repeat (first | apply Kd.V_alloc | apply Kd.V_drewN | apply Kd.V_drew)); exact Kd.V_mono HO_0.out (fun _ hk => ⟨hk.1.1, ⟨hk.2, ⟨hk.1.2.1, hk.1.2.2⟩⟩⟩)⟩, ⟨by (with_reducible repeat (first | apply Kd.N_alloc | apply Kd.N_drewN | apply Kd.N_drew)); exact Kd.N_mono HO_792001.out (fun _ hk => ⟨hk.1.1, ⟨hk.2, hk.1.2⟩⟩)⟩, ⟨by (with_reducible repeat first | apply blk_drewN | apply blk_drew | apply blk_alloc); exact BK791.out⟩, ⟨by repeat (first | (with_reducible first | exact HB.out | apply below_alloc | apply pw_below_drewN | apply below_drew1 | refine below_set ?_ GE791.out) | exact HB.out)⟩⟩
    case round =>
     clear H'; try clear c1; try clear p2; try clear c4; try clear c6; try clear c10; try clear c13; try clear hcz8_0; try clear hcz8_1; try clear hfz8_0; try clear hfz8_1; try clear p2
     obtain ⟨x9_2, x27_2, rfl, HA, HK2, HO_9, HO_25, HO_792001, BK791, HB⟩ := hrel
     cases gk with
     | zero => exact absurd HA.out (by simp [impl_chosen.l0])
     | succ k2 =>
      have H := HA.out; clear HA
      simp only [impl_chosen.l0] at H
      by_cases c16 : x27_2 < (l0.length : Int)
      ·rw [if_pos c16] at H
       have c16b0 : decide (x27_2 < (l0.length : Int)) = true := decide_eq_true c16
       clear c16
       by_cases c17 : 0 ≤ x27_2
       ·rw [if_pos c17] at H
        have c17b0 : decide (0 ≤ x27_2) = true := decide_eq_true c17
        clear c17
        by_cases c18 : x27_2 < (l0.length : Int)
        ·rw [if_pos c18] at H
         have c18b0 : decide (x27_2 < (l0.length : Int)) = true := decide_eq_true c18
         clear c18
         replace H := Option.bind_eq_some_iff.mp H
         obtain ⟨t798, A190, H⟩ := H
         replace H : (if (t798 == a2) = true then (if x9_2.length < 1759218604441 then (impl_chosen.l0 k2 a2 (x9_2 ++ [(⟨(rd_T28 l0 x27_2).f0, (rd_T28 l0 x27_2).f1, (rd_T28 l0 x27_2).f2, (rd_T28 l0 x27_2).f3⟩ : S28)]) l0 (l0.length : Int) (wrap64 (x27_2 + 1)) t786 t787) else (none)) else (impl_chosen.l0 k2 a2 x9_2 l0 (l0.length : Int) (wrap64 (x27_2 + 1)) t786 t787)) = some r := H
         have A19 := Aside0.mk A190; clear A190
         by_cases c20 : (t798 == a2) = true
         ·rw [if_pos c20] at H
          have c20b0 : (t798 == a2) = true := c20
          (try (have c20b1 : decide (t798 = a2) = true := by simpa using c20))
          (try (have c20b2 : (t798 == a2) = true := by simpa using c20))
          clear c20
          by_cases c21 : x9_2.length < 1759218604441
          ·rw [if_pos c21] at H
           have LMc21 := Aside0.mk c21; clear c21
           obtain ⟨y799, hy799⟩ : ∃ y_ : List (S28), y_ = (x9_2 ++ [(⟨(rd_T28 l0 x27_2).f0, (rd_T28 l0 x27_2).f1, (rd_T28 l0 x27_2).f2, (rd_T28 l0 x27_2).f3⟩ : S28)]) := ⟨_, rfl⟩
           replace H : (impl_chosen.l0 k2 a2 y799 l0 (l0.length : Int) (wrap64 (x27_2 + 1)) t786 t787) = some r := by first | (rw [hy799]; with_reducible exact H) | (have H2_ := (Option.bind_some _ _).symm.trans H; rw [hy799]; with_reducible exact H2_) | (have H2_ := (Option.bind_some _ _).symm.trans H; with_reducible exact H2_) | with_reducible exact H | (rw [hy799]; exact H) | exact H
           have Ny799 := Aside0.mk hy799; clear hy799; have H' := Aside0.mk H; clear H
           have p796 : 0 ≤ (x27_2 : Int) := of_decide_eq_true (by first | (with_reducible assumption) | assumption)
           have q796 : x27_2 < (l0.length : Int) := of_decide_eq_true (by first | (with_reducible assumption) | assumption)
           obtain ⟨ad796, A796_2, c796_2, A796_3, c796_3, e796, hx796_0, hx796_1, hx796_2, hx796_3, hl796_2, hi796_2, hl796_3, hi796_3⟩ := at_T28 (Kd.V_reads' HO_25.out).2.2 x27_2 p796 q796
           cases e796
           obtain ⟨ce796, hce796, hMe796, hcc796⟩ := Kd.V_get HO_25.out z28 x27_2 p796 (by first | exact q796 | exact of_decide_eq_true (by first | (with_reducible assumption) | assumption) | (have e_ := (Kd.V_reads' HO_25.out).1; omega))
           obtain ⟨ua796_2, uc796_2, ua796_3, uc796_3, rfl, ul796_2, ge796_2, ul796_3, ge796_3⟩ := k28_openF hMe796
           have hv796_2 := hcc796 2 _ rfl
           rw [add_field _ _ 2 (by omega)] at hv796_2
           replace hv796_2 := Option.some.inj (hv796_2.symm.trans hx796_2)
           injection hv796_2 with hva_ hvn_ hvc_
           rw [hva_] at ge796_2
           rw [hvc_] at ul796_2
           have HL796_2 := Aside0.mk (show Kd.V Kd.string 9 _ w.heap.size _ _ ((rd_T28 l0 x27_2).f2) from Kd.V_mk ul796_2 ge796_2); clear hva_ hvn_ hvc_ ge796_2 ul796_2; have hv796_3 := hcc796 3 _ rfl
           rw [add_field _ _ 3 (by omega)] at hv796_3
           replace hv796_3 := Option.some.inj (hv796_3.symm.trans hx796_3)
           injection hv796_3 with hva_ hvn_ hvc_
           rw [hva_] at ge796_3
           rw [hvc_] at ul796_3
           have HL796_3 := Aside0.mk (show Kd.V Kd.string 9 _ w.heap.size _ _ ((rd_T28 l0 x27_2).f3) from Kd.V_mk ul796_3 ge796_3); clear hva_ hvn_ hvc_ ge796_3 ul796_3 hcc796 hce796; have HR796_2 := Aside0.mk hi796_2; have HC796_2 := Aside0.mk hl796_2; clear hi796_2 hl796_2; have HR796_3 := Aside0.mk hi796_3; have HC796_3 := Aside0.mk hl796_3; clear hi796_3 hl796_3
           replace p796 := eq_true p796
           replace q796 := eq_true q796
           go_wp2_with (first | ((with_reducible refine gate_dst (N := 11) rfl ?_); refine box_event ?hg (N := 11) ?hd (cs := #[.string (⟨#[]⟩ : ByteArray), .string (⟨#[]⟩ : ByteArray), .slice none 0 0, .slice none 0 0]) (t := 28) ?hr ?_; (case hd => rfl); (case hg => rfl); (case hr => first | (go_simp; done) | (go_simp; rfl)); intro gb797 hg w22 hbox hb; replace HO_9 := Aside0.mk (Kd.N_below (Kd.N_elderB (by (with_reducible repeat (first | apply Kd.N_alloc | apply Kd.N_drewN | apply Kd.N_drew)); exact HO_9.out) gb797 (Nat.le_of_eq hg.symm)) hb); replace HO_25 := Aside0.mk (Kd.V_below (Kd.V_elderB (by (with_reducible repeat (first | apply Kd.V_alloc | apply Kd.V_drewN | apply Kd.V_drew)); exact HO_25.out) gb797 (Nat.le_of_eq hg.symm)) hb); replace HO_792001 := Aside0.mk (Kd.N_below (Kd.N_elderB (by (with_reducible repeat (first | apply Kd.N_alloc | apply Kd.N_drewN | apply Kd.N_drew)); exact HO_792001.out) gb797 (Nat.le_of_eq hg.symm)) hb); replace HL796_2 := Aside0.mk (Kd.V_below (Kd.V_elderB (by (with_reducible repeat (first | apply Kd.V_alloc | apply Kd.V_drewN | apply Kd.V_drew)); exact HL796_2.out) gb797 (Nat.le_of_eq hg.symm)) hb); replace HL796_3 := Aside0.mk (Kd.V_below (Kd.V_elderB (by (with_reducible repeat (first | apply Kd.V_alloc | apply Kd.V_drewN | apply Kd.V_drew)); exact HL796_3.out) gb797 (Nat.le_of_eq hg.symm)) hb); replace HR796_2 := Aside0.mk (Kd.C_below (by repeat (first | (with_reducible exact HR796_2.out) | (with_reducible refine Kd.C_alloc ?_ _) | (with_reducible refine Kd.C_drewN ?_ _) | (with_reducible refine Kd.C_drew ?_) | exact HR796_2.out)) hb); replace HR796_3 := Aside0.mk (Kd.C_below (by repeat (first | (with_reducible exact HR796_3.out) | (with_reducible refine Kd.C_alloc ?_ _) | (with_reducible refine Kd.C_drewN ?_ _) | (with_reducible refine Kd.C_drew ?_) | exact HR796_3.out)) hb); have BK797 := Aside0.mk (hbox); have GW797 := Aside0.mk ((by rw [hg]; exact (below_size (by repeat first | (with_reducible first | exact HB.out | apply below_alloc | apply pw_below_drewN | apply below_drew1 | refine below_set ?_ GE791.out) | exact HB.out)) : w.heap.size ≤ gb797)); have GE797 := Aside0.mk ((by rw [hg]; exact (below_size (by repeat first | (with_reducible first | exact HB.out | apply below_alloc | apply pw_below_drewN | apply below_drew1 | refine below_set ?_ GE791.out) | exact HB.out)) : w.heap.size ≤ gb797)); replace HB := Aside0.mk (below_step (by repeat first | (with_reducible first | exact HB.out | apply below_alloc | apply pw_below_drewN | apply below_drew1 | refine below_set ?_ GE791.out) | exact HB.out) hb); have NB791_797 := Aside0.mk ((by rw [hg]; exact Nat.ne_of_lt (blk_lt (g := gb791) (o := .cells #[.string t786, .slice Ao9 t787.length co9] 55 (0, 0)) (by (with_reducible repeat first | apply blk_drewN | apply blk_drew | apply blk_alloc); exact BK791.out)) : gb791 ≠ gb797)); have NB797_791 := Aside0.mk ((by rw [hg]; exact Nat.ne_of_gt (blk_lt (g := gb791) (o := .cells #[.string t786, .slice Ao9 t787.length co9] 55 (0, 0)) (by (with_reducible repeat first | apply blk_drewN | apply blk_drew | apply blk_alloc); exact BK791.out)) : gb797 ≠ gb791)); replace BK791 := Aside0.mk (blk_below (g := gb791) (o := .cells #[.string t786, .slice Ao9 t787.length co9] 55 (0, 0)) (by (with_reducible repeat first | apply blk_drewN | apply blk_drew | apply blk_alloc); exact BK791.out) hb); clear hb hbox hg; have hnb23 := NB797_791.out; have hnc23 := NB791_797.out; have hcz24_0 : w22.cell? ⟨gb797, 0, none⟩ = some (.string (⟨#[]⟩ : ByteArray)) := (blk_cell BK797.out 0).trans rfl; have hcz24_1 : w22.cell? ⟨gb797, 1, none⟩ = some (.string (⟨#[]⟩ : ByteArray)) := (blk_cell BK797.out 1).trans rfl; have hcz24_2 : w22.cell? ⟨gb797, 2, none⟩ = some (.slice none 0 0) := (blk_cell BK797.out 2).trans rfl; have hcz24_3 : w22.cell? ⟨gb797, 3, none⟩ = some (.slice none 0 0) := (blk_cell BK797.out 3).trans rfl; have hfz24_0 := blk_frozen BK797.out 0; have hfz24_1 := blk_frozen BK797.out 1; have hfz24_2 := blk_frozen BK797.out 2; have hfz24_3 := blk_frozen BK797.out 3; have hcz25_0 : w22.cell? ⟨gb791, 0, none⟩ = some (.string t786) := (blk_cell BK791.out 0).trans rfl; have hcz25_1 : w22.cell? ⟨gb791, 1, none⟩ = some (.slice Ao9 t787.length co9) := (blk_cell BK791.out 1).trans rfl; have hfz25_0 := blk_frozen BK791.out 0; have hfz25_1 := blk_frozen BK791.out 1) | ((with_reducible refine gate_callee (f := 48) rfl ?_); refine goesL_ (some 36) rfl rfl Try.func48 (by kernel_rfl) rfl #[.agg #[.string t786, .slice Ao9 t787.length co9], .string ((rd_T28 l0 x27_2).f0), .slice A796_2 ((rd_T28 l0 x27_2).f2).length c796_2] rfl (by (try simp only [List.map_toArray, List.map_cons, List.map_nil]); first | done | rfl) ?_; (with_reducible refine (impl_expr_holds.calls k2 t786 _ _ t787 ((rd_T28 l0 x27_2).f0) _ _ ((rd_T28 l0 x27_2).f2) t798 _ ?side1 ?side2 ?side3 ?side4 A19.out).mono ?_); (case side1 => refine (Kd.N_reads' (e := 55) (base := w.heap.size) (ok := fun k_ => (((P0_ k_ ∨ w.heap.size ≤ k_) ∧ (some k_ ≠ (u9 : Value).ownBlock ∧ k_ ≠ gb791)) ∧ k_ ≠ gb797)) (n := t787.length) (c := co9) ?_).2.2; exact (by (with_reducible repeat (first | apply Kd.N_alloc | apply Kd.N_drewN | apply Kd.N_drew)); exact (Kd.N_mono (Kd.N_far (p := ⟨gb797, 3, none⟩) (Kd.N_far (p := ⟨gb797, 2, none⟩) (Kd.N_far (p := ⟨gb797, 1, none⟩) (Kd.N_far (p := ⟨gb797, 0, none⟩) (Kd.N_mono HO_792001.out (fun k_ hk => (⟨hk, hk.2⟩ : _ ∧ k_ ≠ gb797))) (fun _ hk => hk.2) (.string ((rd_T28 l0 x27_2).f0))) (fun _ hk => hk.2) (.string ((rd_T28 l0 x27_2).f1))) (fun _ hk => hk.2) (.slice A796_2 ((rd_T28 l0 x27_2).f2).length c796_2)) (fun _ hk => hk.2) (.slice A796_3 ((rd_T28 l0 x27_2).f3).length c796_3)) (fun _ h_ => h_.1)))); (case side2 => exact (Kd.N_reads' HO_792001.out).2.1); (case side3 => repeat (first | exact ((Kd.V_reads' (by (with_reducible repeat (first | apply Kd.V_alloc | apply Kd.V_drewN | apply Kd.V_drew)); exact (Kd.V_mono (Kd.V_far (p := ⟨gb797, 3, none⟩) (Kd.V_far (p := ⟨gb797, 2, none⟩) (Kd.V_far (p := ⟨gb797, 1, none⟩) (Kd.V_far (p := ⟨gb797, 0, none⟩) (Kd.V_mono HL796_2.out (fun k_ hk => (⟨hk, hk.2⟩ : _ ∧ k_ ≠ gb797))) (fun _ hk => hk.2) (.string ((rd_T28 l0 x27_2).f0))) (fun _ hk => hk.2) (.string ((rd_T28 l0 x27_2).f1))) (fun _ hk => hk.2) (.slice A796_2 ((rd_T28 l0 x27_2).f2).length c796_2)) (fun _ hk => hk.2) (.slice A796_3 ((rd_T28 l0 x27_2).f3).length c796_3)) (fun _ h_ => h_.1)))).2.2) | with_reducible first | apply Kd.C_alloc | apply Kd.C_drewN | apply Kd.C_drew)); (case side4 => exact HC796_2.out); rintro e w26 ⟨rfl, hb⟩; refine ⟨_, rfl, ?_⟩; replace HO_9 := Aside0.mk (Kd.N_below (by (with_reducible repeat (first | apply Kd.N_alloc | apply Kd.N_drewN | apply Kd.N_drew)); exact (Kd.N_mono (Kd.N_far (p := ⟨gb797, 3, none⟩) (Kd.N_far (p := ⟨gb797, 2, none⟩) (Kd.N_far (p := ⟨gb797, 1, none⟩) (Kd.N_far (p := ⟨gb797, 0, none⟩) (Kd.N_mono HO_9.out (fun k_ hk => (⟨hk, hk.2⟩ : _ ∧ k_ ≠ gb797))) (fun _ hk => hk.2) (.string ((rd_T28 l0 x27_2).f0))) (fun _ hk => hk.2) (.string ((rd_T28 l0 x27_2).f1))) (fun _ hk => hk.2) (.slice A796_2 ((rd_T28 l0 x27_2).f2).length c796_2)) (fun _ hk => hk.2) (.slice A796_3 ((rd_T28 l0 x27_2).f3).length c796_3)) (fun _ h_ => h_.1))) hb); replace HO_25 := Aside0.mk (Kd.V_below (by (with_reducible repeat (first | apply Kd.V_alloc | apply Kd.V_drewN | apply Kd.V_drew)); exact (Kd.V_mono (Kd.V_far (p := ⟨gb797, 3, none⟩) (Kd.V_far (p := ⟨gb797, 2, none⟩) (Kd.V_far (p := ⟨gb797, 1, none⟩) (Kd.V_far (p := ⟨gb797, 0, none⟩) (Kd.V_mono HO_25.out (fun k_ hk => (⟨hk, hk.2⟩ : _ ∧ k_ ≠ gb797))) (fun _ hk => hk.2) (.string ((rd_T28 l0 x27_2).f0))) (fun _ hk => hk.2) (.string ((rd_T28 l0 x27_2).f1))) (fun _ hk => hk.2) (.slice A796_2 ((rd_T28 l0 x27_2).f2).length c796_2)) (fun _ hk => hk.2) (.slice A796_3 ((rd_T28 l0 x27_2).f3).length c796_3)) (fun _ h_ => h_.1))) hb); replace HO_792001 := Aside0.mk (Kd.N_below (by (with_reducible repeat (first | apply Kd.N_alloc | apply Kd.N_drewN | apply Kd.N_drew)); exact (Kd.N_mono (Kd.N_far (p := ⟨gb797, 3, none⟩) (Kd.N_far (p := ⟨gb797, 2, none⟩) (Kd.N_far (p := ⟨gb797, 1, none⟩) (Kd.N_far (p := ⟨gb797, 0, none⟩) (Kd.N_mono HO_792001.out (fun k_ hk => (⟨hk, hk.2⟩ : _ ∧ k_ ≠ gb797))) (fun _ hk => hk.2) (.string ((rd_T28 l0 x27_2).f0))) (fun _ hk => hk.2) (.string ((rd_T28 l0 x27_2).f1))) (fun _ hk => hk.2) (.slice A796_2 ((rd_T28 l0 x27_2).f2).length c796_2)) (fun _ hk => hk.2) (.slice A796_3 ((rd_T28 l0 x27_2).f3).length c796_3)) (fun _ h_ => h_.1))) hb); replace BK791 := Aside0.mk (blk_below (g := gb791) (o := .cells #[.string t786, .slice Ao9 t787.length co9] 55 (0, 0)) (by (with_reducible repeat first | apply blk_drewN | apply blk_drew | apply blk_alloc); refine blk_far ?_ NB791_797.out _; (with_reducible repeat first | apply blk_drewN | apply blk_drew | apply blk_alloc); refine blk_far ?_ NB791_797.out _; (with_reducible repeat first | apply blk_drewN | apply blk_drew | apply blk_alloc); refine blk_far ?_ NB791_797.out _; (with_reducible repeat first | apply blk_drewN | apply blk_drew | apply blk_alloc); refine blk_far ?_ NB791_797.out _; (with_reducible repeat first | apply blk_drewN | apply blk_drew | apply blk_alloc); exact BK791.out) hb); replace HR796_2 := Aside0.mk (Kd.C_below ((Kd.V_reads' (by (with_reducible repeat (first | apply Kd.V_alloc | apply Kd.V_drewN | apply Kd.V_drew)); exact (Kd.V_mono (Kd.V_far (p := ⟨gb797, 3, none⟩) (Kd.V_far (p := ⟨gb797, 2, none⟩) (Kd.V_far (p := ⟨gb797, 1, none⟩) (Kd.V_far (p := ⟨gb797, 0, none⟩) (Kd.V_mono HL796_2.out (fun k_ hk => (⟨hk, hk.2⟩ : _ ∧ k_ ≠ gb797))) (fun _ hk => hk.2) (.string ((rd_T28 l0 x27_2).f0))) (fun _ hk => hk.2) (.string ((rd_T28 l0 x27_2).f1))) (fun _ hk => hk.2) (.slice A796_2 ((rd_T28 l0 x27_2).f2).length c796_2)) (fun _ hk => hk.2) (.slice A796_3 ((rd_T28 l0 x27_2).f3).length c796_3)) (fun _ h_ => h_.1)))).2.2) hb); replace HL796_2 := Aside0.mk (Kd.V_below (by (with_reducible repeat (first | apply Kd.V_alloc | apply Kd.V_drewN | apply Kd.V_drew)); exact (Kd.V_mono (Kd.V_far (p := ⟨gb797, 3, none⟩) (Kd.V_far (p := ⟨gb797, 2, none⟩) (Kd.V_far (p := ⟨gb797, 1, none⟩) (Kd.V_far (p := ⟨gb797, 0, none⟩) (Kd.V_mono HL796_2.out (fun k_ hk => (⟨hk, hk.2⟩ : _ ∧ k_ ≠ gb797))) (fun _ hk => hk.2) (.string ((rd_T28 l0 x27_2).f0))) (fun _ hk => hk.2) (.string ((rd_T28 l0 x27_2).f1))) (fun _ hk => hk.2) (.slice A796_2 ((rd_T28 l0 x27_2).f2).length c796_2)) (fun _ hk => hk.2) (.slice A796_3 ((rd_T28 l0 x27_2).f3).length c796_3)) (fun _ h_ => h_.1))) hb); replace HR796_3 := Aside0.mk (Kd.C_below ((Kd.V_reads' (by (with_reducible repeat (first | apply Kd.V_alloc | apply Kd.V_drewN | apply Kd.V_drew)); exact (Kd.V_mono (Kd.V_far (p := ⟨gb797, 3, none⟩) (Kd.V_far (p := ⟨gb797, 2, none⟩) (Kd.V_far (p := ⟨gb797, 1, none⟩) (Kd.V_far (p := ⟨gb797, 0, none⟩) (Kd.V_mono HL796_3.out (fun k_ hk => (⟨hk, hk.2⟩ : _ ∧ k_ ≠ gb797))) (fun _ hk => hk.2) (.string ((rd_T28 l0 x27_2).f0))) (fun _ hk => hk.2) (.string ((rd_T28 l0 x27_2).f1))) (fun _ hk => hk.2) (.slice A796_2 ((rd_T28 l0 x27_2).f2).length c796_2)) (fun _ hk => hk.2) (.slice A796_3 ((rd_T28 l0 x27_2).f3).length c796_3)) (fun _ h_ => h_.1)))).2.2) hb); replace HL796_3 := Aside0.mk (Kd.V_below (by (with_reducible repeat (first | apply Kd.V_alloc | apply Kd.V_drewN | apply Kd.V_drew)); exact (Kd.V_mono (Kd.V_far (p := ⟨gb797, 3, none⟩) (Kd.V_far (p := ⟨gb797, 2, none⟩) (Kd.V_far (p := ⟨gb797, 1, none⟩) (Kd.V_far (p := ⟨gb797, 0, none⟩) (Kd.V_mono HL796_3.out (fun k_ hk => (⟨hk, hk.2⟩ : _ ∧ k_ ≠ gb797))) (fun _ hk => hk.2) (.string ((rd_T28 l0 x27_2).f0))) (fun _ hk => hk.2) (.string ((rd_T28 l0 x27_2).f1))) (fun _ hk => hk.2) (.slice A796_2 ((rd_T28 l0 x27_2).f2).length c796_2)) (fun _ hk => hk.2) (.slice A796_3 ((rd_T28 l0 x27_2).f3).length c796_3)) (fun _ h_ => h_.1))) hb); replace BK797 := Aside0.mk (blk_below (g := gb797) (o := .cells #[.string ((rd_T28 l0 x27_2).f0), .string ((rd_T28 l0 x27_2).f1), .slice A796_2 ((rd_T28 l0 x27_2).f2).length c796_2, .slice A796_3 ((rd_T28 l0 x27_2).f3).length c796_3] 28 (0, 0)) (by (with_reducible repeat first | apply blk_drewN | apply blk_drew | apply blk_alloc); refine blk_put (cs := #[.string ((rd_T28 l0 x27_2).f0), .string ((rd_T28 l0 x27_2).f1), .slice A796_2 ((rd_T28 l0 x27_2).f2).length c796_2, .slice none 0 0]) ?_ 3 _ rfl; (with_reducible repeat first | apply blk_drewN | apply blk_drew | apply blk_alloc); refine blk_put (cs := #[.string ((rd_T28 l0 x27_2).f0), .string ((rd_T28 l0 x27_2).f1), .slice none 0 0, .slice none 0 0]) ?_ 2 _ rfl; (with_reducible repeat first | apply blk_drewN | apply blk_drew | apply blk_alloc); refine blk_put (cs := #[.string ((rd_T28 l0 x27_2).f0), .string (⟨#[]⟩ : ByteArray), .slice none 0 0, .slice none 0 0]) ?_ 1 _ rfl; (with_reducible repeat first | apply blk_drewN | apply blk_drew | apply blk_alloc); refine blk_put (cs := #[.string (⟨#[]⟩ : ByteArray), .string (⟨#[]⟩ : ByteArray), .slice none 0 0, .slice none 0 0]) ?_ 0 _ rfl; (with_reducible repeat first | apply blk_drewN | apply blk_drew | apply blk_alloc); exact BK797.out) hb); replace HB := Aside0.mk (below_step (by repeat first | (with_reducible first | exact HB.out | apply below_alloc | apply pw_below_drewN | apply below_drew1 | refine below_set ?_ GE791.out | refine below_set ?_ GE797.out) | exact HB.out) hb); (try clear hb); have hcz27_0 : w26.cell? ⟨gb797, 0, none⟩ = some (.string ((rd_T28 l0 x27_2).f0)) := (blk_cell BK797.out 0).trans rfl; have hcz27_1 : w26.cell? ⟨gb797, 1, none⟩ = some (.string ((rd_T28 l0 x27_2).f1)) := (blk_cell BK797.out 1).trans rfl; have hcz27_2 : w26.cell? ⟨gb797, 2, none⟩ = some (.slice A796_2 ((rd_T28 l0 x27_2).f2).length c796_2) := (blk_cell BK797.out 2).trans rfl; have hcz27_3 : w26.cell? ⟨gb797, 3, none⟩ = some (.slice A796_3 ((rd_T28 l0 x27_2).f3).length c796_3) := (blk_cell BK797.out 3).trans rfl; have hfz27_0 := blk_frozen BK797.out 0; have hfz27_1 := blk_frozen BK797.out 1; have hfz27_2 := blk_frozen BK797.out 2; have hfz27_3 := blk_frozen BK797.out 3) | ((with_reducible refine gate_builtin (b := .append) (xs := #[.tmp 39, .tmp 41]) rfl ?_); at_builtin; refine Kd.N_append k28 (w0 := w) w.heap.size rfl (.tmp 39) (.tmp 41) 44 28 (.agg #[(.string ⟨#[]⟩), (.string ⟨#[]⟩), (.slice none 0 0), (.slice none 0 0)]) 80 rfl Try.underlying44 info28 rfl (by decide) (by omega) u9 x9_2 (⟨(rd_T28 l0 x27_2).f0, (rd_T28 l0 x27_2).f1, (rd_T28 l0 x27_2).f2, (rd_T28 l0 x27_2).f3⟩ : S28) [.string ((rd_T28 l0 x27_2).f0), .string ((rd_T28 l0 x27_2).f1), .slice A796_2 ((rd_T28 l0 x27_2).f2).length c796_2, .slice A796_3 ((rd_T28 l0 x27_2).f3).length c796_3] (fun k_ => (P0_ k_ ∨ w.heap.size ≤ k_) ∧ some k_ ≠ (.slice Ao9 t787.length co9 : Value).ownBlock ∧ k_ ≠ gb791 ∧ k_ ≠ gb797) (fun k_ => ((fun k_ => (P0_ k_ ∨ w.heap.size ≤ k_) ∧ some k_ ≠ (.slice Ao9 t787.length co9 : Value).ownBlock ∧ k_ ≠ gb791 ∧ k_ ≠ gb797)) k_ ∧ some k_ ≠ (u9 : Value).ownBlock) rfl rfl ?aP (fun _ hk => hk) ?aF ?aO ?aB ?aS ?aL ?_; (case aP => first | exact (k28_mkF _ _ (⟨(rd_T28 l0 x27_2).f0, (rd_T28 l0 x27_2).f1, (rd_T28 l0 x27_2).f2, (rd_T28 l0 x27_2).f3⟩ : S28) (Kd.V_reads' (Kd.V_mono (ok' := (fun k_ => ((fun k_ => (P0_ k_ ∨ w.heap.size ≤ k_) ∧ some k_ ≠ (.slice Ao9 t787.length co9 : Value).ownBlock ∧ k_ ≠ gb791 ∧ k_ ≠ gb797)) k_ ∧ some k_ ≠ (u9 : Value).ownBlock)) (HL796_2.out) (fun k_ hk => ⟨⟨hk.1.1, ⟨hk.1.2.2.1, ⟨hk.1.2.2.2, hk.2⟩⟩⟩, hk.1.2.1⟩))).2.1 (Kd.V_F (Kd.V_mono (ok' := (fun k_ => ((fun k_ => (P0_ k_ ∨ w.heap.size ≤ k_) ∧ some k_ ≠ (.slice Ao9 t787.length co9 : Value).ownBlock ∧ k_ ≠ gb791 ∧ k_ ≠ gb797)) k_ ∧ some k_ ≠ (u9 : Value).ownBlock)) (HL796_2.out) (fun k_ hk => ⟨⟨hk.1.1, ⟨hk.1.2.2.1, ⟨hk.1.2.2.2, hk.2⟩⟩⟩, hk.1.2.1⟩))) (Kd.V_reads' (Kd.V_mono (ok' := (fun k_ => ((fun k_ => (P0_ k_ ∨ w.heap.size ≤ k_) ∧ some k_ ≠ (.slice Ao9 t787.length co9 : Value).ownBlock ∧ k_ ≠ gb791 ∧ k_ ≠ gb797)) k_ ∧ some k_ ≠ (u9 : Value).ownBlock)) (HL796_3.out) (fun k_ hk => ⟨⟨hk.1.1, ⟨hk.1.2.2.1, ⟨hk.1.2.2.2, hk.2⟩⟩⟩, hk.1.2.1⟩))).2.1 (Kd.V_F (Kd.V_mono (ok' := (fun k_ => ((fun k_ => (P0_ k_ ∨ w.heap.size ≤ k_) ∧ some k_ ≠ (.slice Ao9 t787.length co9 : Value).ownBlock ∧ k_ ≠ gb791 ∧ k_ ≠ gb797)) k_ ∧ some k_ ≠ (u9 : Value).ownBlock)) (HL796_3.out) (fun k_ hk => ⟨⟨hk.1.1, ⟨hk.1.2.2.1, ⟨hk.1.2.2.2, hk.2⟩⟩⟩, hk.1.2.1⟩)))) | exact (k28_mkF _ _ (⟨(rd_T28 l0 x27_2).f0, (rd_T28 l0 x27_2).f1, (rd_T28 l0 x27_2).f2, (rd_T28 l0 x27_2).f3⟩ : S28) (Kd.V_reads' (Kd.V_mono (ok' := (fun k_ => ((fun k_ => (P0_ k_ ∨ w.heap.size ≤ k_) ∧ some k_ ≠ (.slice Ao9 t787.length co9 : Value).ownBlock ∧ k_ ≠ gb791 ∧ k_ ≠ gb797)) k_ ∧ some k_ ≠ (u9 : Value).ownBlock)) (HL796_2.out) (fun k_ hk => ⟨⟨hk.1.1, ⟨hk.1.2.2.1, ⟨hk.1.2.2.2, hk.2⟩⟩⟩, hk.1.2.1⟩))).2.1 (Kd.V_F (Kd.V_mono (ok' := (fun k_ => ((fun k_ => (P0_ k_ ∨ w.heap.size ≤ k_) ∧ some k_ ≠ (.slice Ao9 t787.length co9 : Value).ownBlock ∧ k_ ≠ gb791 ∧ k_ ≠ gb797)) k_ ∧ some k_ ≠ (u9 : Value).ownBlock)) (Kd.V_drewN HL796_2.out _) (fun k_ hk => ⟨⟨hk.1.1, ⟨hk.1.2.2.1, ⟨hk.1.2.2.2, hk.2⟩⟩⟩, hk.1.2.1⟩))) (Kd.V_reads' (Kd.V_mono (ok' := (fun k_ => ((fun k_ => (P0_ k_ ∨ w.heap.size ≤ k_) ∧ some k_ ≠ (.slice Ao9 t787.length co9 : Value).ownBlock ∧ k_ ≠ gb791 ∧ k_ ≠ gb797)) k_ ∧ some k_ ≠ (u9 : Value).ownBlock)) (Kd.V_drewN HL796_3.out _) (fun k_ hk => ⟨⟨hk.1.1, ⟨hk.1.2.2.1, ⟨hk.1.2.2.2, hk.2⟩⟩⟩, hk.1.2.1⟩))).2.1 (Kd.V_F (Kd.V_mono (ok' := (fun k_ => ((fun k_ => (P0_ k_ ∨ w.heap.size ≤ k_) ∧ some k_ ≠ (.slice Ao9 t787.length co9 : Value).ownBlock ∧ k_ ≠ gb791 ∧ k_ ≠ gb797)) k_ ∧ some k_ ≠ (u9 : Value).ownBlock)) (Kd.V_drewN HL796_3.out _) (fun k_ hk => ⟨⟨hk.1.1, ⟨hk.1.2.2.1, ⟨hk.1.2.2.2, hk.2⟩⟩⟩, hk.1.2.1⟩))))); (case aB => exact (by repeat first | (with_reducible first | exact HB.out | apply below_alloc | apply pw_below_drewN | apply below_drew1 | refine below_set ?_ GE791.out | refine below_set ?_ GE797.out) | exact HB.out)); (case aF => exact (fun k_ hk => ⟨(.inr (Nat.le_trans (below_size (by repeat first | (with_reducible first | exact HB.out | apply below_alloc | apply pw_below_drewN | apply below_drew1 | refine below_set ?_ GE791.out | refine below_set ?_ GE797.out) | exact HB.out)) hk)), Kd.fresh' (Kd.N_lt (by (with_reducible repeat (first | apply Kd.N_alloc | apply Kd.N_drewN | apply Kd.N_drew)); exact HO_792001.out)) k_ hk, Kd.freshB (g := gb791) (o := .cells #[.string t786, .slice Ao9 t787.length co9] 55 (0, 0)) (by (with_reducible repeat first | apply blk_drewN | apply blk_drew | apply blk_alloc); exact BK791.out) k_ hk, Kd.freshB (g := gb797) (o := .cells #[.string ((rd_T28 l0 x27_2).f0), .string ((rd_T28 l0 x27_2).f1), .slice A796_2 ((rd_T28 l0 x27_2).f2).length c796_2, .slice A796_3 ((rd_T28 l0 x27_2).f3).length c796_3] 28 (0, 0)) (by (with_reducible repeat first | apply blk_drewN | apply blk_drew | apply blk_alloc); exact BK797.out) k_ hk⟩)); (case aO => exact (by (with_reducible repeat (first | apply Kd.N_alloc | apply Kd.N_drewN | apply Kd.N_drew)); exact Kd.N_mono HO_9.out (fun _ hk => ⟨hk.1.1, ⟨hk.1.2.1, ⟨hk.1.2.2, hk.2⟩⟩⟩))); (case aS => exact (below_size (by repeat first | (with_reducible first | exact HB.out | apply below_alloc | apply pw_below_drewN | apply below_drew1 | refine below_set ?_ GE791.out | refine below_set ?_ GE797.out) | exact HB.out))); (case aL => have := LMc21.out; omega); intro v800 w28 ho hb hg hat; rw [← Ny799.out] at ho; replace HO_25 := Aside0.mk (Kd.V_afterv (ok := (fun k_ => (P0_ k_ ∨ w.heap.size ≤ k_) ∧ some k_ ≠ (.slice Ao9 t787.length co9 : Value).ownBlock ∧ k_ ≠ gb791 ∧ k_ ≠ gb797)) (by (with_reducible repeat (first | apply Kd.V_alloc | apply Kd.V_drewN | apply Kd.V_drew)); exact Kd.V_mono HO_25.out (fun _ hk => ⟨⟨hk.1.1, ⟨hk.1.2.2.1, ⟨hk.1.2.2.2, hk.2⟩⟩⟩, hk.1.2.1⟩)) hg hat); replace HO_792001 := Aside0.mk (Kd.N_afterv (ok := (fun k_ => (P0_ k_ ∨ w.heap.size ≤ k_) ∧ k_ ≠ gb791 ∧ k_ ≠ gb797)) (by (with_reducible repeat (first | apply Kd.N_alloc | apply Kd.N_drewN | apply Kd.N_drew)); exact Kd.N_mono HO_792001.out (fun _ hk => ⟨⟨hk.1.1, ⟨hk.1.2.2, hk.2⟩⟩, hk.1.2.1⟩)) hg hat); replace BK791 := Aside0.mk (blk_grown (g := gb791) (o := .cells #[.string t786, .slice Ao9 t787.length co9] 55 (0, 0)) (by (with_reducible repeat first | apply blk_drewN | apply blk_drew | apply blk_alloc); exact BK791.out) hg (Kd.N_ne HO_9.out BK791.out (by decide))); replace HL796_2 := Aside0.mk (Kd.V_afterv (ok := (fun k_ => (P0_ k_ ∨ w.heap.size ≤ k_) ∧ some k_ ≠ (.slice Ao9 t787.length co9 : Value).ownBlock ∧ k_ ≠ gb791 ∧ k_ ≠ gb797)) (by (with_reducible repeat (first | apply Kd.V_alloc | apply Kd.V_drewN | apply Kd.V_drew)); exact Kd.V_mono HL796_2.out (fun _ hk => ⟨⟨hk.1.1, ⟨hk.1.2.2.1, ⟨hk.1.2.2.2, hk.2⟩⟩⟩, hk.1.2.1⟩)) hg hat); replace HL796_3 := Aside0.mk (Kd.V_afterv (ok := (fun k_ => (P0_ k_ ∨ w.heap.size ≤ k_) ∧ some k_ ≠ (.slice Ao9 t787.length co9 : Value).ownBlock ∧ k_ ≠ gb791 ∧ k_ ≠ gb797)) (by (with_reducible repeat (first | apply Kd.V_alloc | apply Kd.V_drewN | apply Kd.V_drew)); exact Kd.V_mono HL796_3.out (fun _ hk => ⟨⟨hk.1.1, ⟨hk.1.2.2.1, ⟨hk.1.2.2.2, hk.2⟩⟩⟩, hk.1.2.1⟩)) hg hat); replace BK797 := Aside0.mk (blk_grown (g := gb797) (o := .cells #[.string ((rd_T28 l0 x27_2).f0), .string ((rd_T28 l0 x27_2).f1), .slice A796_2 ((rd_T28 l0 x27_2).f2).length c796_2, .slice A796_3 ((rd_T28 l0 x27_2).f3).length c796_3] 28 (0, 0)) (by (with_reducible repeat first | apply blk_drewN | apply blk_drew | apply blk_alloc); exact BK797.out) hg (Kd.N_away HO_9.out (fun _ hk => hk.2))); replace HB := Aside0.mk (hb); have HO801 := Aside0.mk (ho); clear HO_9; clear ho hb hg hat))
           go_roundg k2
           case measure => have := HJ4.out; have := HK2.out; omega
           case rel => exact ⟨(y799), (wrap64 (x27_2 + 1)), (by first | rfl | (simp; done) | (simp [*]; done)), H', ⟨by have := HJ4.out; have := HK2.out; omega⟩, ⟨by (with_reducible repeat (first | apply Kd.N_alloc | apply Kd.N_drewN | apply Kd.N_drew)); exact Kd.N_mono HO801.out (fun _ hk => ⟨hk.1, ⟨hk.2.1, hk.2.2.1⟩⟩)⟩, ⟨by (with_reducible repeat (first | apply Kd.V_alloc | apply Kd.V_drewN | apply Kd.V_drew)); exact Kd.V_mono HO_25.out (fun _ hk => ⟨hk.1.1, ⟨hk.2, ⟨hk.1.2.1, hk.1.2.2.1⟩⟩⟩)⟩, ⟨by (with_reducible repeat (first | apply Kd.N_alloc | apply Kd.N_drewN | apply Kd.N_drew)); exact Kd.N_mono HO_792001.out (fun _ hk => ⟨hk.1.1, ⟨hk.2, hk.1.2.1⟩⟩)⟩, ⟨by (with_reducible repeat first | apply blk_drewN | apply blk_drew | apply blk_alloc); exact BK791.out⟩, ⟨by repeat (first | (with_reducible first | exact HB.out | apply below_alloc | apply pw_below_drewN | apply below_drew1 | refine below_set ?_ GE791.out | refine below_set ?_ GE797.out) | exact HB.out)⟩⟩
          ·rw [if_neg c21] at H
           exact absurd H (by simp)
         ·rw [if_neg c20] at H
          have c20b0 : (t798 == a2) = false := by simpa using c20
          (try (have c20b1 : decide (t798 = a2) = false := by simpa using c20))
          (try (have c20b2 : (t798 == a2) = false := by simpa using c20))
          (try (have c20b3 : ¬ (t798 = a2) := by simpa using c20))
          clear c20; have H' := Aside0.mk H; clear H
          have p796 : 0 ≤ (x27_2 : Int) := of_decide_eq_true (by first | (with_reducible assumption) | assumption)
          have q796 : x27_2 < (l0.length : Int) := of_decide_eq_true (by first | (with_reducible assumption) | assumption)
          obtain ⟨ad796, A796_2, c796_2, A796_3, c796_3, e796, hx796_0, hx796_1, hx796_2, hx796_3, hl796_2, hi796_2, hl796_3, hi796_3⟩ := at_T28 (Kd.V_reads' HO_25.out).2.2 x27_2 p796 q796
          cases e796
          obtain ⟨ce796, hce796, hMe796, hcc796⟩ := Kd.V_get HO_25.out z28 x27_2 p796 (by first | exact q796 | exact of_decide_eq_true (by first | (with_reducible assumption) | assumption) | (have e_ := (Kd.V_reads' HO_25.out).1; omega))
          obtain ⟨ua796_2, uc796_2, ua796_3, uc796_3, rfl, ul796_2, ge796_2, ul796_3, ge796_3⟩ := k28_openF hMe796
          have hv796_2 := hcc796 2 _ rfl
          rw [add_field _ _ 2 (by omega)] at hv796_2
          replace hv796_2 := Option.some.inj (hv796_2.symm.trans hx796_2)
          injection hv796_2 with hva_ hvn_ hvc_
          rw [hva_] at ge796_2
          rw [hvc_] at ul796_2
          have HL796_2 := Aside0.mk (show Kd.V Kd.string 9 _ w.heap.size _ _ ((rd_T28 l0 x27_2).f2) from Kd.V_mk ul796_2 ge796_2); clear hva_ hvn_ hvc_ ge796_2 ul796_2; have hv796_3 := hcc796 3 _ rfl
          rw [add_field _ _ 3 (by omega)] at hv796_3
          replace hv796_3 := Option.some.inj (hv796_3.symm.trans hx796_3)
          injection hv796_3 with hva_ hvn_ hvc_
          rw [hva_] at ge796_3
          rw [hvc_] at ul796_3
          have HL796_3 := Aside0.mk (show Kd.V Kd.string 9 _ w.heap.size _ _ ((rd_T28 l0 x27_2).f3) from Kd.V_mk ul796_3 ge796_3); clear hva_ hvn_ hvc_ ge796_3 ul796_3 hcc796 hce796; have HR796_2 := Aside0.mk hi796_2; have HC796_2 := Aside0.mk hl796_2; clear hi796_2 hl796_2; have HR796_3 := Aside0.mk hi796_3; have HC796_3 := Aside0.mk hl796_3; clear hi796_3 hl796_3
          replace p796 := eq_true p796
          replace q796 := eq_true q796
          go_wp2_with (first | ((with_reducible refine gate_dst (N := 11) rfl ?_); refine box_event ?hg (N := 11) ?hd (cs := #[.string (⟨#[]⟩ : ByteArray), .string (⟨#[]⟩ : ByteArray), .slice none 0 0, .slice none 0 0]) (t := 28) ?hr ?_; (case hd => rfl); (case hg => rfl); (case hr => first | (go_simp; done) | (go_simp; rfl)); intro gb797 hg w29 hbox hb; replace HO_9 := Aside0.mk (Kd.N_below (Kd.N_elderB (by (with_reducible repeat (first | apply Kd.N_alloc | apply Kd.N_drewN | apply Kd.N_drew)); exact HO_9.out) gb797 (Nat.le_of_eq hg.symm)) hb); replace HO_25 := Aside0.mk (Kd.V_below (Kd.V_elderB (by (with_reducible repeat (first | apply Kd.V_alloc | apply Kd.V_drewN | apply Kd.V_drew)); exact HO_25.out) gb797 (Nat.le_of_eq hg.symm)) hb); replace HO_792001 := Aside0.mk (Kd.N_below (Kd.N_elderB (by (with_reducible repeat (first | apply Kd.N_alloc | apply Kd.N_drewN | apply Kd.N_drew)); exact HO_792001.out) gb797 (Nat.le_of_eq hg.symm)) hb); replace HL796_2 := Aside0.mk (Kd.V_below (Kd.V_elderB (by (with_reducible repeat (first | apply Kd.V_alloc | apply Kd.V_drewN | apply Kd.V_drew)); exact HL796_2.out) gb797 (Nat.le_of_eq hg.symm)) hb); replace HL796_3 := Aside0.mk (Kd.V_below (Kd.V_elderB (by (with_reducible repeat (first | apply Kd.V_alloc | apply Kd.V_drewN | apply Kd.V_drew)); exact HL796_3.out) gb797 (Nat.le_of_eq hg.symm)) hb); replace HR796_2 := Aside0.mk (Kd.C_below (by repeat (first | (with_reducible exact HR796_2.out) | (with_reducible refine Kd.C_alloc ?_ _) | (with_reducible refine Kd.C_drewN ?_ _) | (with_reducible refine Kd.C_drew ?_) | exact HR796_2.out)) hb); replace HR796_3 := Aside0.mk (Kd.C_below (by repeat (first | (with_reducible exact HR796_3.out) | (with_reducible refine Kd.C_alloc ?_ _) | (with_reducible refine Kd.C_drewN ?_ _) | (with_reducible refine Kd.C_drew ?_) | exact HR796_3.out)) hb); have BK797 := Aside0.mk (hbox); have GW797 := Aside0.mk ((by rw [hg]; exact (below_size (by repeat first | (with_reducible first | exact HB.out | apply below_alloc | apply pw_below_drewN | apply below_drew1 | refine below_set ?_ GE791.out) | exact HB.out)) : w.heap.size ≤ gb797)); have GE797 := Aside0.mk ((by rw [hg]; exact (below_size (by repeat first | (with_reducible first | exact HB.out | apply below_alloc | apply pw_below_drewN | apply below_drew1 | refine below_set ?_ GE791.out) | exact HB.out)) : w.heap.size ≤ gb797)); replace HB := Aside0.mk (below_step (by repeat first | (with_reducible first | exact HB.out | apply below_alloc | apply pw_below_drewN | apply below_drew1 | refine below_set ?_ GE791.out) | exact HB.out) hb); have NB791_797 := Aside0.mk ((by rw [hg]; exact Nat.ne_of_lt (blk_lt (g := gb791) (o := .cells #[.string t786, .slice Ao9 t787.length co9] 55 (0, 0)) (by (with_reducible repeat first | apply blk_drewN | apply blk_drew | apply blk_alloc); exact BK791.out)) : gb791 ≠ gb797)); have NB797_791 := Aside0.mk ((by rw [hg]; exact Nat.ne_of_gt (blk_lt (g := gb791) (o := .cells #[.string t786, .slice Ao9 t787.length co9] 55 (0, 0)) (by (with_reducible repeat first | apply blk_drewN | apply blk_drew | apply blk_alloc); exact BK791.out)) : gb797 ≠ gb791)); replace BK791 := Aside0.mk (blk_below (g := gb791) (o := .cells #[.string t786, .slice Ao9 t787.length co9] 55 (0, 0)) (by (with_reducible repeat first | apply blk_drewN | apply blk_drew | apply blk_alloc); exact BK791.out) hb); clear hb hbox hg; have hnb30 := NB797_791.out; have hnc30 := NB791_797.out; have hcz31_0 : w29.cell? ⟨gb797, 0, none⟩ = some (.string (⟨#[]⟩ : ByteArray)) := (blk_cell BK797.out 0).trans rfl; have hcz31_1 : w29.cell? ⟨gb797, 1, none⟩ = some (.string (⟨#[]⟩ : ByteArray)) := (blk_cell BK797.out 1).trans rfl; have hcz31_2 : w29.cell? ⟨gb797, 2, none⟩ = some (.slice none 0 0) := (blk_cell BK797.out 2).trans rfl; have hcz31_3 : w29.cell? ⟨gb797, 3, none⟩ = some (.slice none 0 0) := (blk_cell BK797.out 3).trans rfl; have hfz31_0 := blk_frozen BK797.out 0; have hfz31_1 := blk_frozen BK797.out 1; have hfz31_2 := blk_frozen BK797.out 2; have hfz31_3 := blk_frozen BK797.out 3; have hcz32_0 : w29.cell? ⟨gb791, 0, none⟩ = some (.string t786) := (blk_cell BK791.out 0).trans rfl; have hcz32_1 : w29.cell? ⟨gb791, 1, none⟩ = some (.slice Ao9 t787.length co9) := (blk_cell BK791.out 1).trans rfl; have hfz32_0 := blk_frozen BK791.out 0; have hfz32_1 := blk_frozen BK791.out 1) | ((with_reducible refine gate_callee (f := 48) rfl ?_); refine goesL_ (some 36) rfl rfl Try.func48 (by kernel_rfl) rfl #[.agg #[.string t786, .slice Ao9 t787.length co9], .string ((rd_T28 l0 x27_2).f0), .slice A796_2 ((rd_T28 l0 x27_2).f2).length c796_2] rfl (by (try simp only [List.map_toArray, List.map_cons, List.map_nil]); first | done | rfl) ?_; (with_reducible refine (impl_expr_holds.calls k2 t786 _ _ t787 ((rd_T28 l0 x27_2).f0) _ _ ((rd_T28 l0 x27_2).f2) t798 _ ?side1 ?side2 ?side3 ?side4 A19.out).mono ?_); (case side1 => refine (Kd.N_reads' (e := 55) (base := w.heap.size) (ok := fun k_ => (((P0_ k_ ∨ w.heap.size ≤ k_) ∧ (some k_ ≠ (u9 : Value).ownBlock ∧ k_ ≠ gb791)) ∧ k_ ≠ gb797)) (n := t787.length) (c := co9) ?_).2.2; exact (by (with_reducible repeat (first | apply Kd.N_alloc | apply Kd.N_drewN | apply Kd.N_drew)); exact (Kd.N_mono (Kd.N_far (p := ⟨gb797, 3, none⟩) (Kd.N_far (p := ⟨gb797, 2, none⟩) (Kd.N_far (p := ⟨gb797, 1, none⟩) (Kd.N_far (p := ⟨gb797, 0, none⟩) (Kd.N_mono HO_792001.out (fun k_ hk => (⟨hk, hk.2⟩ : _ ∧ k_ ≠ gb797))) (fun _ hk => hk.2) (.string ((rd_T28 l0 x27_2).f0))) (fun _ hk => hk.2) (.string ((rd_T28 l0 x27_2).f1))) (fun _ hk => hk.2) (.slice A796_2 ((rd_T28 l0 x27_2).f2).length c796_2)) (fun _ hk => hk.2) (.slice A796_3 ((rd_T28 l0 x27_2).f3).length c796_3)) (fun _ h_ => h_.1)))); (case side2 => exact (Kd.N_reads' HO_792001.out).2.1); (case side3 => repeat (first | exact ((Kd.V_reads' (by (with_reducible repeat (first | apply Kd.V_alloc | apply Kd.V_drewN | apply Kd.V_drew)); exact (Kd.V_mono (Kd.V_far (p := ⟨gb797, 3, none⟩) (Kd.V_far (p := ⟨gb797, 2, none⟩) (Kd.V_far (p := ⟨gb797, 1, none⟩) (Kd.V_far (p := ⟨gb797, 0, none⟩) (Kd.V_mono HL796_2.out (fun k_ hk => (⟨hk, hk.2⟩ : _ ∧ k_ ≠ gb797))) (fun _ hk => hk.2) (.string ((rd_T28 l0 x27_2).f0))) (fun _ hk => hk.2) (.string ((rd_T28 l0 x27_2).f1))) (fun _ hk => hk.2) (.slice A796_2 ((rd_T28 l0 x27_2).f2).length c796_2)) (fun _ hk => hk.2) (.slice A796_3 ((rd_T28 l0 x27_2).f3).length c796_3)) (fun _ h_ => h_.1)))).2.2) | with_reducible first | apply Kd.C_alloc | apply Kd.C_drewN | apply Kd.C_drew)); (case side4 => exact HC796_2.out); rintro e w33 ⟨rfl, hb⟩; refine ⟨_, rfl, ?_⟩; replace HO_9 := Aside0.mk (Kd.N_below (by (with_reducible repeat (first | apply Kd.N_alloc | apply Kd.N_drewN | apply Kd.N_drew)); exact (Kd.N_mono (Kd.N_far (p := ⟨gb797, 3, none⟩) (Kd.N_far (p := ⟨gb797, 2, none⟩) (Kd.N_far (p := ⟨gb797, 1, none⟩) (Kd.N_far (p := ⟨gb797, 0, none⟩) (Kd.N_mono HO_9.out (fun k_ hk => (⟨hk, hk.2⟩ : _ ∧ k_ ≠ gb797))) (fun _ hk => hk.2) (.string ((rd_T28 l0 x27_2).f0))) (fun _ hk => hk.2) (.string ((rd_T28 l0 x27_2).f1))) (fun _ hk => hk.2) (.slice A796_2 ((rd_T28 l0 x27_2).f2).length c796_2)) (fun _ hk => hk.2) (.slice A796_3 ((rd_T28 l0 x27_2).f3).length c796_3)) (fun _ h_ => h_.1))) hb); replace HO_25 := Aside0.mk (Kd.V_below (by (with_reducible repeat (first | apply Kd.V_alloc | apply Kd.V_drewN | apply Kd.V_drew)); exact (Kd.V_mono (Kd.V_far (p := ⟨gb797, 3, none⟩) (Kd.V_far (p := ⟨gb797, 2, none⟩) (Kd.V_far (p := ⟨gb797, 1, none⟩) (Kd.V_far (p := ⟨gb797, 0, none⟩) (Kd.V_mono HO_25.out (fun k_ hk => (⟨hk, hk.2⟩ : _ ∧ k_ ≠ gb797))) (fun _ hk => hk.2) (.string ((rd_T28 l0 x27_2).f0))) (fun _ hk => hk.2) (.string ((rd_T28 l0 x27_2).f1))) (fun _ hk => hk.2) (.slice A796_2 ((rd_T28 l0 x27_2).f2).length c796_2)) (fun _ hk => hk.2) (.slice A796_3 ((rd_T28 l0 x27_2).f3).length c796_3)) (fun _ h_ => h_.1))) hb); replace HO_792001 := Aside0.mk (Kd.N_below (by (with_reducible repeat (first | apply Kd.N_alloc | apply Kd.N_drewN | apply Kd.N_drew)); exact (Kd.N_mono (Kd.N_far (p := ⟨gb797, 3, none⟩) (Kd.N_far (p := ⟨gb797, 2, none⟩) (Kd.N_far (p := ⟨gb797, 1, none⟩) (Kd.N_far (p := ⟨gb797, 0, none⟩) (Kd.N_mono HO_792001.out (fun k_ hk => (⟨hk, hk.2⟩ : _ ∧ k_ ≠ gb797))) (fun _ hk => hk.2) (.string ((rd_T28 l0 x27_2).f0))) (fun _ hk => hk.2) (.string ((rd_T28 l0 x27_2).f1))) (fun _ hk => hk.2) (.slice A796_2 ((rd_T28 l0 x27_2).f2).length c796_2)) (fun _ hk => hk.2) (.slice A796_3 ((rd_T28 l0 x27_2).f3).length c796_3)) (fun _ h_ => h_.1))) hb); replace BK791 := Aside0.mk (blk_below (g := gb791) (o := .cells #[.string t786, .slice Ao9 t787.length co9] 55 (0, 0)) (by (with_reducible repeat first | apply blk_drewN | apply blk_drew | apply blk_alloc); refine blk_far ?_ NB791_797.out _; (with_reducible repeat first | apply blk_drewN | apply blk_drew | apply blk_alloc); refine blk_far ?_ NB791_797.out _; (with_reducible repeat first | apply blk_drewN | apply blk_drew | apply blk_alloc); refine blk_far ?_ NB791_797.out _; (with_reducible repeat first | apply blk_drewN | apply blk_drew | apply blk_alloc); refine blk_far ?_ NB791_797.out _; (with_reducible repeat first | apply blk_drewN | apply blk_drew | apply blk_alloc); exact BK791.out) hb); replace HR796_2 := Aside0.mk (Kd.C_below ((Kd.V_reads' (by (with_reducible repeat (first | apply Kd.V_alloc | apply Kd.V_drewN | apply Kd.V_drew)); exact (Kd.V_mono (Kd.V_far (p := ⟨gb797, 3, none⟩) (Kd.V_far (p := ⟨gb797, 2, none⟩) (Kd.V_far (p := ⟨gb797, 1, none⟩) (Kd.V_far (p := ⟨gb797, 0, none⟩) (Kd.V_mono HL796_2.out (fun k_ hk => (⟨hk, hk.2⟩ : _ ∧ k_ ≠ gb797))) (fun _ hk => hk.2) (.string ((rd_T28 l0 x27_2).f0))) (fun _ hk => hk.2) (.string ((rd_T28 l0 x27_2).f1))) (fun _ hk => hk.2) (.slice A796_2 ((rd_T28 l0 x27_2).f2).length c796_2)) (fun _ hk => hk.2) (.slice A796_3 ((rd_T28 l0 x27_2).f3).length c796_3)) (fun _ h_ => h_.1)))).2.2) hb); replace HL796_2 := Aside0.mk (Kd.V_below (by (with_reducible repeat (first | apply Kd.V_alloc | apply Kd.V_drewN | apply Kd.V_drew)); exact (Kd.V_mono (Kd.V_far (p := ⟨gb797, 3, none⟩) (Kd.V_far (p := ⟨gb797, 2, none⟩) (Kd.V_far (p := ⟨gb797, 1, none⟩) (Kd.V_far (p := ⟨gb797, 0, none⟩) (Kd.V_mono HL796_2.out (fun k_ hk => (⟨hk, hk.2⟩ : _ ∧ k_ ≠ gb797))) (fun _ hk => hk.2) (.string ((rd_T28 l0 x27_2).f0))) (fun _ hk => hk.2) (.string ((rd_T28 l0 x27_2).f1))) (fun _ hk => hk.2) (.slice A796_2 ((rd_T28 l0 x27_2).f2).length c796_2)) (fun _ hk => hk.2) (.slice A796_3 ((rd_T28 l0 x27_2).f3).length c796_3)) (fun _ h_ => h_.1))) hb); replace HR796_3 := Aside0.mk (Kd.C_below ((Kd.V_reads' (by (with_reducible repeat (first | apply Kd.V_alloc | apply Kd.V_drewN | apply Kd.V_drew)); exact (Kd.V_mono (Kd.V_far (p := ⟨gb797, 3, none⟩) (Kd.V_far (p := ⟨gb797, 2, none⟩) (Kd.V_far (p := ⟨gb797, 1, none⟩) (Kd.V_far (p := ⟨gb797, 0, none⟩) (Kd.V_mono HL796_3.out (fun k_ hk => (⟨hk, hk.2⟩ : _ ∧ k_ ≠ gb797))) (fun _ hk => hk.2) (.string ((rd_T28 l0 x27_2).f0))) (fun _ hk => hk.2) (.string ((rd_T28 l0 x27_2).f1))) (fun _ hk => hk.2) (.slice A796_2 ((rd_T28 l0 x27_2).f2).length c796_2)) (fun _ hk => hk.2) (.slice A796_3 ((rd_T28 l0 x27_2).f3).length c796_3)) (fun _ h_ => h_.1)))).2.2) hb); replace HL796_3 := Aside0.mk (Kd.V_below (by (with_reducible repeat (first | apply Kd.V_alloc | apply Kd.V_drewN | apply Kd.V_drew)); exact (Kd.V_mono (Kd.V_far (p := ⟨gb797, 3, none⟩) (Kd.V_far (p := ⟨gb797, 2, none⟩) (Kd.V_far (p := ⟨gb797, 1, none⟩) (Kd.V_far (p := ⟨gb797, 0, none⟩) (Kd.V_mono HL796_3.out (fun k_ hk => (⟨hk, hk.2⟩ : _ ∧ k_ ≠ gb797))) (fun _ hk => hk.2) (.string ((rd_T28 l0 x27_2).f0))) (fun _ hk => hk.2) (.string ((rd_T28 l0 x27_2).f1))) (fun _ hk => hk.2) (.slice A796_2 ((rd_T28 l0 x27_2).f2).length c796_2)) (fun _ hk => hk.2) (.slice A796_3 ((rd_T28 l0 x27_2).f3).length c796_3)) (fun _ h_ => h_.1))) hb); replace BK797 := Aside0.mk (blk_below (g := gb797) (o := .cells #[.string ((rd_T28 l0 x27_2).f0), .string ((rd_T28 l0 x27_2).f1), .slice A796_2 ((rd_T28 l0 x27_2).f2).length c796_2, .slice A796_3 ((rd_T28 l0 x27_2).f3).length c796_3] 28 (0, 0)) (by (with_reducible repeat first | apply blk_drewN | apply blk_drew | apply blk_alloc); refine blk_put (cs := #[.string ((rd_T28 l0 x27_2).f0), .string ((rd_T28 l0 x27_2).f1), .slice A796_2 ((rd_T28 l0 x27_2).f2).length c796_2, .slice none 0 0]) ?_ 3 _ rfl; (with_reducible repeat first | apply blk_drewN | apply blk_drew | apply blk_alloc); refine blk_put (cs := #[.string ((rd_T28 l0 x27_2).f0), .string ((rd_T28 l0 x27_2).f1), .slice none 0 0, .slice none 0 0]) ?_ 2 _ rfl; (with_reducible repeat first | apply blk_drewN | apply blk_drew | apply blk_alloc); refine blk_put (cs := #[.string ((rd_T28 l0 x27_2).f0), .string (⟨#[]⟩ : ByteArray), .slice none 0 0, .slice none 0 0]) ?_ 1 _ rfl; (with_reducible repeat first | apply blk_drewN | apply blk_drew | apply blk_alloc); refine blk_put (cs := #[.string (⟨#[]⟩ : ByteArray), .string (⟨#[]⟩ : ByteArray), .slice none 0 0, .slice none 0 0]) ?_ 0 _ rfl; (with_reducible repeat first | apply blk_drewN | apply blk_drew | apply blk_alloc); exact BK797.out) hb); replace HB := Aside0.mk (below_step (by repeat first | (with_reducible first | exact HB.out | apply below_alloc | apply pw_below_drewN | apply below_drew1 | refine below_set ?_ GE791.out | refine below_set ?_ GE797.out) | exact HB.out) hb); (try clear hb)))
          go_roundg k2
          case measure => have := HJ4.out; have := HK2.out; omega
          case rel => exact ⟨(x9_2), (wrap64 (x27_2 + 1)), (by first | rfl | (simp; done) | (simp [*]; done)), H', ⟨by have := HJ4.out; have := HK2.out; omega⟩, ⟨by (with_reducible repeat (first | apply Kd.N_alloc | apply Kd.N_drewN | apply Kd.N_drew)); exact Kd.N_mono HO_9.out (fun _ hk => ⟨hk.1.1, ⟨hk.1.2.1, hk.1.2.2⟩⟩)⟩, ⟨by (with_reducible repeat (first | apply Kd.V_alloc | apply Kd.V_drewN | apply Kd.V_drew)); exact Kd.V_mono HO_25.out (fun _ hk => ⟨hk.1.1, ⟨hk.1.2.1, ⟨hk.1.2.2.1, hk.1.2.2.2⟩⟩⟩)⟩, ⟨by (with_reducible repeat (first | apply Kd.N_alloc | apply Kd.N_drewN | apply Kd.N_drew)); exact Kd.N_mono HO_792001.out (fun _ hk => ⟨hk.1.1, ⟨hk.1.2.1, hk.1.2.2⟩⟩)⟩, ⟨by (with_reducible repeat first | apply blk_drewN | apply blk_drew | apply blk_alloc); exact BK791.out⟩, ⟨by repeat (first | (with_reducible first | exact HB.out | apply below_alloc | apply pw_below_drewN | apply below_drew1 | refine below_set ?_ GE791.out | refine below_set ?_ GE797.out) | exact HB.out)⟩⟩
        ·rw [if_neg c18] at H
         exact absurd H (by simp)
       ·rw [if_neg c17] at H
        exact absurd H (by simp)
      ·rw [if_neg c16] at H
       have c16b0 : decide (x27_2 < (l0.length : Int)) = false := decide_eq_false c16
       clear c16
       replace H := Option.bind_eq_some_iff.mp H
       obtain ⟨t802, A340, H⟩ := H
       replace H : (some t802) = some r := H
       have A34 := Aside0.mk A340; clear A340
       obtain rfl := Option.some.inj H
       obtain ⟨Ao35, co35, eo35⟩ := Kd.N_slice HO_9.out
       subst eo35
       go_wp2_with (first | ((with_reducible refine gate_callee (f := 82) rfl ?_); refine goesL_ (some 45) rfl rfl Try.func82 (by kernel_rfl) rfl #[.slice Ao35 x9_2.length co35] rfl (by (try simp only [List.map_toArray, List.map_cons, List.map_nil]); first | done | rfl) ?_; (with_reducible refine (impl_copyTests.calls k2 _ _ x9_2 t802 _ ?side1 ?side2 A34.out).mono ?_); (case side1 => repeat (first | exact (Kd.N_reads' HO_9.out).2.2 | with_reducible first | apply Kd.C_alloc | apply Kd.C_drewN | apply Kd.C_drew)); (case side2 => exact (Kd.N_reads' HO_9.out).2.1); rintro e w36 ⟨v803, rfl, ho0, hb⟩; refine ⟨_, rfl, ?_⟩; replace HO_25 := Aside0.mk (Kd.V_elder' (by (with_reducible repeat (first | apply Kd.V_alloc | apply Kd.V_drewN | apply Kd.V_drew)); exact HO_25.out) (Kd.S_base ho0) hb); have HO804 := Aside0.mk (Kd.N_lower (Kd.N_mono (ok' := fun k_ => (P0_ k_ ∨ w.heap.size ≤ k_) ∧ some k_ ≠ (.slice Ao35 x9_2.length co35 : Value).ownBlock ∧ some k_ ≠ (.slice Ao9 t787.length co9 : Value).ownBlock ∧ k_ ≠ gb791) (Kd.S_N (Kd.S_bound ho0)) (fun k_ hk_ => ⟨(.inr (Nat.le_trans (below_size (by repeat first | (with_reducible first | exact HB.out | apply below_alloc | apply pw_below_drewN | apply below_drew1 | refine below_set ?_ GE791.out) | exact HB.out)) hk_.2.1)), (Kd.fresh' (Kd.N_lt (by (with_reducible repeat (first | apply Kd.N_alloc | apply Kd.N_drewN | apply Kd.N_drew)); exact HO_9.out)) k_ hk_.2.1), (Kd.fresh' (Kd.N_lt (by (with_reducible repeat (first | apply Kd.N_alloc | apply Kd.N_drewN | apply Kd.N_drew)); exact HO_792001.out)) k_ hk_.2.1), (Kd.freshB (g := gb791) (o := .cells #[.string t786, .slice Ao9 t787.length co9] 55 (0, 0)) (by (with_reducible repeat first | apply blk_drewN | apply blk_drew | apply blk_alloc); exact BK791.out) k_ hk_.2.1)⟩)) (below_size (by repeat first | (with_reducible first | exact HB.out | apply below_alloc | apply pw_below_drewN | apply below_drew1 | refine below_set ?_ GE791.out) | exact HB.out))); replace HO_9 := Aside0.mk (Kd.N_elder' (by (with_reducible repeat (first | apply Kd.N_alloc | apply Kd.N_drewN | apply Kd.N_drew)); exact HO_9.out) (Kd.S_base ho0) hb); replace HO_792001 := Aside0.mk (Kd.N_elder' (by (with_reducible repeat (first | apply Kd.N_alloc | apply Kd.N_drewN | apply Kd.N_drew)); exact HO_792001.out) (Kd.S_base ho0) hb); replace BK791 := Aside0.mk (blk_below (g := gb791) (o := .cells #[.string t786, .slice Ao9 t787.length co9] 55 (0, 0)) (by (with_reducible repeat first | apply blk_drewN | apply blk_drew | apply blk_alloc); exact BK791.out) hb); replace HB := Aside0.mk (below_step (by repeat first | (with_reducible first | exact HB.out | apply below_alloc | apply pw_below_drewN | apply below_drew1 | refine below_set ?_ GE791.out) | exact HB.out) hb); (try clear hb); (try clear ho0)))
       go_ret
       exact ⟨_, by first | rfl | (simp [errW_none, errW_some] <;> rfl) | (simp [*, errW_none, errW_some] <;> rfl), by (with_reducible repeat (first | apply Kd.N_alloc | apply Kd.N_drewN | apply Kd.N_drew)); exact Kd.N_mono HO804.out (fun _ hk => hk.1), by repeat (first | (with_reducible first | exact HB.out | apply below_alloc | apply pw_below_drewN | apply below_drew1 | refine below_set ?_ GE791.out) | exact HB.out)⟩

/-! ### impl_SelectTests: function 40 -/
def impl_SelectTests.f (k : Nat) (l0 : List (S28)) (a1 : ByteArray) : Option ((List (S28))) := (impl_chosen.f k l0 a1 true).bind fun t805 => (some t805)
theorem impl_SelectTests.mono : ∀ a0 a1 k, LeO (impl_SelectTests.f k a0 a1) (impl_SelectTests.f (k + 1) a0 a1) := by
 intro a0 a1 k
 unfold impl_SelectTests.f
 repeat' first
   | (with_reducible exact impl_chosen.mono _ _ _ _)
   | (with_reducible exact LeO.refl _)
   | (with_reducible exact LeO.none _)
   | (with_reducible refine LeO.ite ?_ ?_)
   | (with_reducible refine LeO.bind ?_ (fun _ => ?_))
   | refine LeO.ite ?_ ?_
   | refine LeO.bind ?_ (fun _ => ?_)
set_option maxHeartbeats 8000000 in
set_option maxRecDepth 100000 in
theorem impl_SelectTests.calls (k : Nat) (P0_ : Nat → Prop) (A0 : Option Addr) (c0 : Nat) (l0 : List (S28)) (a1 : ByteArray) (r : List (S28)) (w : World) (hs0 : Kd.V k28 28 w w.heap.size (fun k_ => P0_ k_) (.slice A0 l0.length c0) l0) (h : impl_SelectTests.f k l0 a1 = some r) :
  Calls Try.prog 40 #[.slice A0 l0.length c0, .string a1] w fun e w' => ∃ v0_ : Value, e = .returned (v0_) ∧ Kd.N k28 28 w' w.heap.size (fun k_ => (P0_ k_ ∨ w.heap.size ≤ k_)) v0_ r ∧ Below w.heap.size w w' := by
 have HO0 := Aside0.mk (show Kd.V k28 28 w w.heap.size (fun k_ => (P0_ k_ ∨ w.heap.size ≤ k_)) (.slice A0 l0.length c0) l0 from Kd.V_mono hs0 (fun k_ hk => .inl hk)); have HB := Aside0.mk (Below.refl w.heap.size w)
 have H : ((impl_chosen.f k l0 a1 true).bind fun t805 => (some t805)) = some r := h
 clear h
 replace H := Option.bind_eq_some_iff.mp H
 obtain ⟨t805, A30, H⟩ := H
 replace H : (some t805) = some r := H
 have A3 := Aside0.mk A30; clear A30
 obtain rfl := Option.some.inj H
 go_enter Try.func40, Try.ntmps40
 go_wp2_with (first | ((with_reducible refine gate_callee (f := 66) rfl ?_); refine goesL_ (some 7) rfl rfl Try.func66 (by kernel_rfl) rfl #[.slice A0 l0.length c0, .string a1, .bool true] rfl (by (try simp only [List.map_toArray, List.map_cons, List.map_nil]); first | done | rfl) ?_; (with_reducible refine (impl_chosen.calls k (fun k_ => (P0_ k_ ∨ w.heap.size ≤ k_)) _ _ l0 a1 true t805 _ ?side1 A3.out).mono ?_); (case side1 => exact HO0.out); rintro e w4 ⟨v806, rfl, ho0, hb⟩; refine ⟨_, rfl, ?_⟩; replace HO0 := Aside0.mk (Kd.V_elder' (by (with_reducible repeat (first | apply Kd.V_alloc | apply Kd.V_drewN | apply Kd.V_drew)); exact HO0.out) (Kd.N_base ho0) hb); have HO807 := Aside0.mk (Kd.N_lower (Kd.N_mono (ok' := fun k_ => (P0_ k_ ∨ w.heap.size ≤ k_)) ho0 (fun k_ hk_ => Or.elim hk_ (fun hs_ => hs_) (fun hn_ => (.inr (Nat.le_trans (below_size (by repeat first | (with_reducible first | exact HB.out | apply below_alloc | apply pw_below_drewN | apply below_drew1) | exact HB.out)) hn_))))) (below_size (by repeat first | (with_reducible first | exact HB.out | apply below_alloc | apply pw_below_drewN | apply below_drew1) | exact HB.out))); replace HB := Aside0.mk (below_step (by repeat first | (with_reducible first | exact HB.out | apply below_alloc | apply pw_below_drewN | apply below_drew1) | exact HB.out) hb); (try clear hb); (try clear ho0)))
 go_ret
 exact ⟨_, by first | rfl | (simp [errW_none, errW_some] <;> rfl) | (simp [*, errW_none, errW_some] <;> rfl), by (with_reducible repeat (first | apply Kd.N_alloc | apply Kd.N_drewN | apply Kd.N_drew)); exact HO807.out, by repeat (first | (with_reducible first | exact HB.out | apply below_alloc | apply pw_below_drewN | apply below_drew1) | exact HB.out)⟩

/-! ### laws_FnModulesOf: function 10 -/
mutual
def laws_FnModulesOf.j0 : Nat → List (S28) → List ByteArray → Bool → Option (Bool)
 | 0, _, _, _ => none
 | k + 1, x3, x4, x23 => if x23 = true then ((spec_ModulesOf.f k x3).bind fun t819 => ((laws_equalTexts.f k x4 t819).bind fun t822 => (some t822))) else (laws_FnModulesOf.l0 k x3 x4 0 0)
def laws_FnModulesOf.l0 : Nat → List (S28) → List ByteArray → Int → Int → Option (Bool)
 | 0, _, _, _, _ => none
 | k + 1, x3, x4, x5, x6 => if x6 < (x4.length : Int) then (if 0 ≤ x6 then (if 1 + (rdOf ByteArray.empty x4 x6).size ≤ 9223372036854775807 then ((impl_SelectTests.f k x3 ((⟨#[64]⟩ : ByteArray) ++ (rdOf ByteArray.empty x4 x6))).bind fun t824 => (laws_FnModulesOf.l0 k x3 x4 (wrap64 (x5 + (t824.length : Int))) (wrap64 (x6 + 1)))) else (none)) else (none)) else ((laws_apart.f k x4).bind fun t827 => (if t827 = true then (some (x5 == (x3.length : Int))) else (some false)))
end
def laws_FnModulesOf.f (k : Nat) (l0 : List Int) : Option (Bool) := if (l0.length : Int) > 1048576 then (some true) else ((spec_DrawModulesOf.f k l0).bind fun t808 => ((impl_ModulesOf.f k t808).bind fun t811 => ((spec_ModulesOf.f k t808).bind fun t814 => ((laws_equalTexts.f k t811 t814).bind fun t817 => (if t817 = true then ((impl_ValidTests.f k t808).bind fun t818 => (laws_FnModulesOf.j0 k t808 t811 (!t818))) else (laws_FnModulesOf.j0 k t808 t811 true))))))
theorem laws_FnModulesOf.mono_l : ∀ k, (∀ y0 y1 y2, LeO (laws_FnModulesOf.j0 k y0 y1 y2) (laws_FnModulesOf.j0 (k + 1) y0 y1 y2)) ∧ (∀ y0 y1 y2 y3, LeO (laws_FnModulesOf.l0 k y0 y1 y2 y3) (laws_FnModulesOf.l0 (k + 1) y0 y1 y2 y3))
 | 0 => ⟨fun _ _ _ r h => by simp [laws_FnModulesOf.j0] at h, fun _ _ _ _ r h => by simp [laws_FnModulesOf.l0] at h⟩
 | k + 1 => by
  obtain ⟨ih0, ih1⟩ := laws_FnModulesOf.mono_l k
  refine ⟨?_, ?_⟩
  ·intro y0 y1 y2
   unfold laws_FnModulesOf.j0
   repeat' first
   | (with_reducible exact ih0 _ _ _)
   | (with_reducible exact ih1 _ _ _ _)
   | (with_reducible exact impl_ModulesOf.mono _ _)
   | (with_reducible exact impl_SelectTests.mono _ _ _)
   | (with_reducible exact impl_ValidTests.mono _ _)
   | (with_reducible exact laws_apart.mono _ _)
   | (with_reducible exact laws_equalTexts.mono _ _ _)
   | (with_reducible exact spec_DrawModulesOf.mono _ _)
   | (with_reducible exact spec_ModulesOf.mono _ _)
   | (with_reducible exact LeO.refl _)
   | (with_reducible exact LeO.none _)
   | (with_reducible refine LeO.ite ?_ ?_)
   | (with_reducible refine LeO.bind ?_ (fun _ => ?_))
   | refine LeO.ite ?_ ?_
   | refine LeO.bind ?_ (fun _ => ?_)
  ·intro y0 y1 y2 y3
   unfold laws_FnModulesOf.l0
   repeat' first
   | (with_reducible exact ih0 _ _ _)
   | (with_reducible exact ih1 _ _ _ _)
   | (with_reducible exact impl_ModulesOf.mono _ _)
   | (with_reducible exact impl_SelectTests.mono _ _ _)
   | (with_reducible exact impl_ValidTests.mono _ _)
   | (with_reducible exact laws_apart.mono _ _)
   | (with_reducible exact laws_equalTexts.mono _ _ _)
   | (with_reducible exact spec_DrawModulesOf.mono _ _)
   | (with_reducible exact spec_ModulesOf.mono _ _)
   | (with_reducible exact LeO.refl _)
   | (with_reducible exact LeO.none _)
   | (with_reducible refine LeO.ite ?_ ?_)
   | (with_reducible refine LeO.bind ?_ (fun _ => ?_))
   | refine LeO.ite ?_ ?_
   | refine LeO.bind ?_ (fun _ => ?_)
theorem laws_FnModulesOf.mono : ∀ a0 k, LeO (laws_FnModulesOf.f k a0) (laws_FnModulesOf.f (k + 1) a0) := by
 intro a0 k
 obtain ⟨ih0, ih1⟩ := laws_FnModulesOf.mono_l k
 unfold laws_FnModulesOf.f
 repeat' first
   | (with_reducible exact ih0 _ _ _)
   | (with_reducible exact ih1 _ _ _ _)
   | (with_reducible exact impl_ModulesOf.mono _ _)
   | (with_reducible exact impl_SelectTests.mono _ _ _)
   | (with_reducible exact impl_ValidTests.mono _ _)
   | (with_reducible exact laws_apart.mono _ _)
   | (with_reducible exact laws_equalTexts.mono _ _ _)
   | (with_reducible exact spec_DrawModulesOf.mono _ _)
   | (with_reducible exact spec_ModulesOf.mono _ _)
   | (with_reducible exact LeO.refl _)
   | (with_reducible exact LeO.none _)
   | (with_reducible refine LeO.ite ?_ ?_)
   | (with_reducible refine LeO.bind ?_ (fun _ => ?_))
   | refine LeO.ite ?_ ?_
   | refine LeO.bind ?_ (fun _ => ?_)
set_option maxHeartbeats 8000000 in
set_option maxRecDepth 100000 in
theorem laws_FnModulesOf.calls (k : Nat) (A0 : Option Addr) (c0 : Nat) (l0 : List Int) (r : Bool) (w : World) (hr0 : Kd.C (Kd.int .u8) w A0 l0.length l0) (hc0 : l0.length ≤ c0) (h : laws_FnModulesOf.f k l0 = some r) :
  Calls Try.prog 10 #[.slice A0 l0.length c0] w fun e w' => e = .returned (.bool r) ∧ Below w.heap.size w w' := by
 have HR0 := Aside0.mk hr0; have HC0 := Aside0.mk hc0; clear hr0 hc0; have HB := Aside0.mk (Below.refl w.heap.size w)
 have H : (if (l0.length : Int) > 1048576 then (some true) else ((spec_DrawModulesOf.f k l0).bind fun t808 => ((impl_ModulesOf.f k t808).bind fun t811 => ((spec_ModulesOf.f k t808).bind fun t814 => ((laws_equalTexts.f k t811 t814).bind fun t817 => (if t817 = true then ((impl_ValidTests.f k t808).bind fun t818 => (laws_FnModulesOf.j0 k t808 t811 (!t818))) else (laws_FnModulesOf.j0 k t808 t811 true))))))) = some r := h
 clear h
 by_cases c2 : (l0.length : Int) > 1048576
 ·rw [if_pos c2] at H
  have c2b0 : decide (1048576 < (l0.length : Int)) = true := decide_eq_true c2
  have c2b1 : decide (1048576 < l0.length) = true := decide_eq_true (by omega)
  clear c2
  obtain rfl := Option.some.inj H
  go_enter Try.func10, Try.ntmps10
  go_wp2
  go_ret
  exact ⟨by first | rfl | (simp [errW_none, errW_some] <;> rfl) | (simp [*, errW_none, errW_some] <;> rfl), by repeat (first | (with_reducible first | exact HB.out | apply below_alloc | apply pw_below_drewN | apply below_drew1) | exact HB.out)⟩
 ·rw [if_neg c2] at H
  have c2b0 : decide (1048576 < (l0.length : Int)) = false := decide_eq_false c2
  have c2b1 : decide (1048576 < l0.length) = false := decide_eq_false (by omega)
  clear c2
  replace H := Option.bind_eq_some_iff.mp H
  obtain ⟨t808, A30, H⟩ := H
  replace H : ((impl_ModulesOf.f k t808).bind fun t811 => ((spec_ModulesOf.f k t808).bind fun t814 => ((laws_equalTexts.f k t811 t814).bind fun t817 => (if t817 = true then ((impl_ValidTests.f k t808).bind fun t818 => (laws_FnModulesOf.j0 k t808 t811 (!t818))) else (laws_FnModulesOf.j0 k t808 t811 true))))) = some r := H
  have A3 := Aside0.mk A30; clear A30
  replace H := Option.bind_eq_some_iff.mp H
  obtain ⟨t811, A40, H⟩ := H
  replace H : ((spec_ModulesOf.f k t808).bind fun t814 => ((laws_equalTexts.f k t811 t814).bind fun t817 => (if t817 = true then ((impl_ValidTests.f k t808).bind fun t818 => (laws_FnModulesOf.j0 k t808 t811 (!t818))) else (laws_FnModulesOf.j0 k t808 t811 true)))) = some r := H
  have A4 := Aside0.mk A40; clear A40; have HC5 := Aside0.mk H; clear H
  go_enter Try.func10, Try.ntmps10
  go_upto_region 5 with (first | ((with_reducible refine gate_callee (f := 36) rfl ?_); refine goesL_ (some 11) rfl rfl Try.func36 (by kernel_rfl) rfl #[.slice A0 l0.length c0] rfl (by (try simp only [List.map_toArray, List.map_cons, List.map_nil]); first | done | rfl) ?_; (with_reducible refine (spec_DrawModulesOf.calls k _ _ l0 t808 _ ?side1 ?side2 A3.out).mono ?_); (case side1 => repeat (first | exact HR0.out | with_reducible first | apply Kd.C_alloc | apply Kd.C_drewN | apply Kd.C_drew)); (case side2 => exact HC0.out); rintro e w6 ⟨v809, rfl, ho0, hb⟩; refine ⟨_, rfl, ?_⟩; have HO810 := Aside0.mk (Kd.N_lower (Kd.N_mono (ok' := fun k_ => True) ho0 (fun k_ hk_ => trivial)) (below_size (by repeat first | (with_reducible first | exact HB.out | apply below_alloc | apply pw_below_drewN | apply below_drew1) | exact HB.out))); replace HB := Aside0.mk (below_step (by repeat first | (with_reducible first | exact HB.out | apply below_alloc | apply pw_below_drewN | apply below_drew1) | exact HB.out) hb); (try clear hb); (try clear ho0); obtain ⟨Ao7, co7, eo7⟩ := Kd.N_slice HO810.out; subst eo7) | ((with_reducible refine gate_callee (f := 37) rfl ?_); refine goesL_ (some 13) rfl rfl Try.func37 (by kernel_rfl) rfl #[.slice Ao7 t808.length co7] rfl (by (try simp only [List.map_toArray, List.map_cons, List.map_nil]); first | done | rfl) ?_; (with_reducible refine (impl_ModulesOf.calls k _ _ t808 t811 _ ?side1 ?side2 A4.out).mono ?_); (case side1 => repeat (first | exact (Kd.N_reads' HO810.out).2.2 | with_reducible first | apply Kd.C_alloc | apply Kd.C_drewN | apply Kd.C_drew)); (case side2 => exact (Kd.N_reads' HO810.out).2.1); rintro e w8 ⟨v812, rfl, ho0, hb⟩; refine ⟨_, rfl, ?_⟩; replace HO810 := Aside0.mk (Kd.N_elder' (by (with_reducible repeat (first | apply Kd.N_alloc | apply Kd.N_drewN | apply Kd.N_drew)); exact HO810.out) (Kd.R_base ho0) hb); have HO813 := Aside0.mk (Kd.R_lower ho0 (below_size (by repeat first | (with_reducible first | exact HB.out | apply below_alloc | apply pw_below_drewN | apply below_drew1) | exact HB.out))); replace HB := Aside0.mk (below_step (by repeat first | (with_reducible first | exact HB.out | apply below_alloc | apply pw_below_drewN | apply below_drew1) | exact HB.out) hb); (try clear hb); (try clear ho0)))
  (try simp only [Act.put, List.setIfInBounds_toArray, List.set_cons_zero, List.set_cons_succ])
  go_cut [23] (fun v23 wc => ∃ (kq : Nat) (x23_4 : Bool), v23 = .bool x23_4 ∧ Aside0 (laws_FnModulesOf.j0 kq t808 t811 x23_4 = some r) ∧ Aside0 (kq ≤ k) ∧ Aside0 (Kd.N k28 28 wc w.heap.size (fun k_ => some k_ ≠ (v812 : Value).ownBlock) (.slice Ao7 t808.length co7) t808) ∧ Aside0 (Kd.R Kd.string 9 wc w.heap.size (fun _ => True) v812 t811) ∧ Aside0 (Below w.heap.size w wc))
  case first =>
   have H := HC5.out; clear HC5
   replace H := Option.bind_eq_some_iff.mp H
   obtain ⟨t814, A90, H⟩ := H
   replace H : ((laws_equalTexts.f k t811 t814).bind fun t817 => (if t817 = true then ((impl_ValidTests.f k t808).bind fun t818 => (laws_FnModulesOf.j0 k t808 t811 (!t818))) else (laws_FnModulesOf.j0 k t808 t811 true))) = some r := H
   have A9 := Aside0.mk A90; clear A90
   replace H := Option.bind_eq_some_iff.mp H
   obtain ⟨t817, A100, H⟩ := H
   replace H : (if t817 = true then ((impl_ValidTests.f k t808).bind fun t818 => (laws_FnModulesOf.j0 k t808 t811 (!t818))) else (laws_FnModulesOf.j0 k t808 t811 true)) = some r := H
   have A10 := Aside0.mk A100; clear A100
   by_cases c11 : t817 = true
   ·subst c11
    have H1 : ((impl_ValidTests.f k t808).bind fun t818 => (laws_FnModulesOf.j0 k t808 t811 (!t818))) = some r := by rw [if_pos rfl] at H; exact H
    clear H; have H := H1; clear H1
    replace H := Option.bind_eq_some_iff.mp H
    obtain ⟨t818, A120, H⟩ := H
    replace H : (laws_FnModulesOf.j0 k t808 t811 (!t818)) = some r := H
    have A12 := Aside0.mk A120; clear A120; have H' := Aside0.mk H; clear H
    go_wp2_with (first | ((with_reducible refine gate_callee (f := 38) rfl ?_); refine goesL_ (some 16) rfl rfl Try.func38 (by kernel_rfl) rfl #[.slice Ao7 t808.length co7] rfl (by (try simp only [List.map_toArray, List.map_cons, List.map_nil]); first | done | rfl) ?_; (with_reducible refine (spec_ModulesOf.calls k _ _ t808 t814 _ ?side1 ?side2 A9.out).mono ?_); (case side1 => repeat (first | exact (Kd.N_reads' HO810.out).2.2 | with_reducible first | apply Kd.C_alloc | apply Kd.C_drewN | apply Kd.C_drew)); (case side2 => exact (Kd.N_reads' HO810.out).2.1); rintro e w13 ⟨v815, rfl, ho0, hb⟩; refine ⟨_, rfl, ?_⟩; replace HO810 := Aside0.mk (Kd.N_elder' (by (with_reducible repeat (first | apply Kd.N_alloc | apply Kd.N_drewN | apply Kd.N_drew)); exact HO810.out) (Kd.R_base ho0) hb); have HO816 := Aside0.mk (Kd.R_lower (Kd.R_new' ho0 (Kd.R_lt (by (with_reducible repeat first | apply Kd.R_alloc | apply Kd.R_drewN | apply Kd.R_drew); exact HO813.out))) (below_size (by repeat first | (with_reducible first | exact HB.out | apply below_alloc | apply pw_below_drewN | apply below_drew1) | exact HB.out))); replace HO813 := Aside0.mk (Kd.R_elder' (by (with_reducible repeat first | apply Kd.R_alloc | apply Kd.R_drewN | apply Kd.R_drew); exact HO813.out) (Kd.R_base ho0) hb); replace HB := Aside0.mk (below_step (by repeat first | (with_reducible first | exact HB.out | apply below_alloc | apply pw_below_drewN | apply below_drew1) | exact HB.out) hb); (try clear hb); (try clear ho0); obtain ⟨Ao14, co14, eo14⟩ := Kd.R_slice HO813.out; subst eo14; obtain ⟨Ao15, co15, eo15⟩ := Kd.R_slice HO816.out; subst eo15) | ((with_reducible refine gate_callee (f := 32) rfl ?_); refine goesL_ (some 17) rfl rfl Try.func32 (by kernel_rfl) rfl #[.slice Ao14 t811.length co14, .slice Ao15 t814.length co15] rfl (by (try simp only [List.map_toArray, List.map_cons, List.map_nil]); first | done | rfl) ?_; (with_reducible refine (laws_equalTexts.calls k _ _ t811 _ _ t814 true _ ?side1 ?side2 ?side3 ?side4 A10.out).mono ?_); (case side1 => repeat (first | exact (Kd.R_reads' HO813.out).2.2 | with_reducible first | apply Kd.C_alloc | apply Kd.C_drewN | apply Kd.C_drew)); (case side2 => exact (Kd.R_reads' HO813.out).2.1); (case side3 => repeat (first | exact (Kd.R_reads' HO816.out).2.2 | with_reducible first | apply Kd.C_alloc | apply Kd.C_drewN | apply Kd.C_drew)); (case side4 => exact (Kd.R_reads' HO816.out).2.1); rintro e w' ⟨rfl, ⟨nd, rfl⟩⟩; refine ⟨_, rfl, ?_⟩) | (go_at_call 39; (with_reducible refine (impl_ValidTests.calls k _ _ t808 t818 _ ?side1 ?side2 A12.out).mono ?_); (case side1 => repeat (first | exact (Kd.N_reads' HO810.out).2.2 | with_reducible first | apply Kd.C_alloc | apply Kd.C_drewN | apply Kd.C_drew)); (case side2 => exact (Kd.N_reads' HO810.out).2.1); rintro e w16 ⟨rfl, hb⟩; replace HO810 := Aside0.mk (Kd.N_below (by (with_reducible repeat (first | apply Kd.N_alloc | apply Kd.N_drewN | apply Kd.N_drew)); exact HO810.out) hb); replace HO813 := Aside0.mk (Kd.R_below (by (with_reducible repeat first | apply Kd.R_alloc | apply Kd.R_drewN | apply Kd.R_drew); exact HO813.out) hb); replace HO816 := Aside0.mk (Kd.R_below (by (with_reducible repeat first | apply Kd.R_alloc | apply Kd.R_drewN | apply Kd.R_drew); exact HO816.out) hb); replace HB := Aside0.mk (below_step (by repeat first | (with_reducible first | exact HB.out | apply below_alloc | apply pw_below_drewN | apply below_drew1) | exact HB.out) hb); (try clear hb)))
    go_meet
    case rel => exact ⟨_, (!t818), (by first | rfl | (simp; done) | (simp [*]; done)), H', ⟨by first | omega | exact Nat.le_refl _⟩, ⟨by (with_reducible repeat (first | apply Kd.N_alloc | apply Kd.N_drewN | apply Kd.N_drew)); exact Kd.N_mono HO810.out (fun _ hk => hk.1.2)⟩, ⟨by (with_reducible repeat first | apply Kd.R_alloc | apply Kd.R_drewN | apply Kd.R_drew); exact Kd.R_mono HO813.out (fun _ hk => trivial)⟩, ⟨by repeat (first | (with_reducible first | exact HB.out | apply below_alloc | apply pw_below_drewN | apply below_drew1) | exact HB.out)⟩⟩
   ·replace c11 := Bool.eq_false_iff.mpr c11
    subst c11
    have H1 : (laws_FnModulesOf.j0 k t808 t811 true) = some r := by rw [if_neg (show ¬ (false = true) by decide)] at H; exact H
    clear H; have H := H1; clear H1; have H' := Aside0.mk H; clear H
    go_wp2_with (first | ((with_reducible refine gate_callee (f := 38) rfl ?_); refine goesL_ (some 16) rfl rfl Try.func38 (by kernel_rfl) rfl #[.slice Ao7 t808.length co7] rfl (by (try simp only [List.map_toArray, List.map_cons, List.map_nil]); first | done | rfl) ?_; (with_reducible refine (spec_ModulesOf.calls k _ _ t808 t814 _ ?side1 ?side2 A9.out).mono ?_); (case side1 => repeat (first | exact (Kd.N_reads' HO810.out).2.2 | with_reducible first | apply Kd.C_alloc | apply Kd.C_drewN | apply Kd.C_drew)); (case side2 => exact (Kd.N_reads' HO810.out).2.1); rintro e w17 ⟨v815, rfl, ho0, hb⟩; refine ⟨_, rfl, ?_⟩; replace HO810 := Aside0.mk (Kd.N_elder' (by (with_reducible repeat (first | apply Kd.N_alloc | apply Kd.N_drewN | apply Kd.N_drew)); exact HO810.out) (Kd.R_base ho0) hb); have HO816 := Aside0.mk (Kd.R_lower (Kd.R_new' ho0 (Kd.R_lt (by (with_reducible repeat first | apply Kd.R_alloc | apply Kd.R_drewN | apply Kd.R_drew); exact HO813.out))) (below_size (by repeat first | (with_reducible first | exact HB.out | apply below_alloc | apply pw_below_drewN | apply below_drew1) | exact HB.out))); replace HO813 := Aside0.mk (Kd.R_elder' (by (with_reducible repeat first | apply Kd.R_alloc | apply Kd.R_drewN | apply Kd.R_drew); exact HO813.out) (Kd.R_base ho0) hb); replace HB := Aside0.mk (below_step (by repeat first | (with_reducible first | exact HB.out | apply below_alloc | apply pw_below_drewN | apply below_drew1) | exact HB.out) hb); (try clear hb); (try clear ho0); obtain ⟨Ao18, co18, eo18⟩ := Kd.R_slice HO813.out; subst eo18; obtain ⟨Ao19, co19, eo19⟩ := Kd.R_slice HO816.out; subst eo19) | ((with_reducible refine gate_callee (f := 32) rfl ?_); refine goesL_ (some 17) rfl rfl Try.func32 (by kernel_rfl) rfl #[.slice Ao18 t811.length co18, .slice Ao19 t814.length co19] rfl (by (try simp only [List.map_toArray, List.map_cons, List.map_nil]); first | done | rfl) ?_; (with_reducible refine (laws_equalTexts.calls k _ _ t811 _ _ t814 false _ ?side1 ?side2 ?side3 ?side4 A10.out).mono ?_); (case side1 => repeat (first | exact (Kd.R_reads' HO813.out).2.2 | with_reducible first | apply Kd.C_alloc | apply Kd.C_drewN | apply Kd.C_drew)); (case side2 => exact (Kd.R_reads' HO813.out).2.1); (case side3 => repeat (first | exact (Kd.R_reads' HO816.out).2.2 | with_reducible first | apply Kd.C_alloc | apply Kd.C_drewN | apply Kd.C_drew)); (case side4 => exact (Kd.R_reads' HO816.out).2.1); rintro e w' ⟨rfl, ⟨nd, rfl⟩⟩; refine ⟨_, rfl, ?_⟩))
    go_meet
    case rel => exact ⟨_, (true), (by first | rfl | (simp; done) | (simp [*]; done)), H', ⟨by first | omega | exact Nat.le_refl _⟩, ⟨by (with_reducible repeat (first | apply Kd.N_alloc | apply Kd.N_drewN | apply Kd.N_drew)); exact Kd.N_mono HO810.out (fun _ hk => hk.1.2)⟩, ⟨by (with_reducible repeat first | apply Kd.R_alloc | apply Kd.R_drewN | apply Kd.R_drew); exact Kd.R_mono HO813.out (fun _ hk => trivial)⟩, ⟨by repeat (first | (with_reducible first | exact HB.out | apply below_alloc | apply pw_below_drewN | apply below_drew1) | exact HB.out)⟩⟩
  case rest =>
   clear HC5; try clear c1; try clear c2; try clear c2b0; try clear c2b1; try clear p2; try clear c3; try clear c10; try clear c11
   obtain ⟨kq, x23_4, rfl, HA, HJ4, HO_3, HO_4, HB⟩ := hcut
   cases kq with
   | zero => exact absurd HA.out (by simp [laws_FnModulesOf.j0])
   | succ kj4 =>
    have H := HA.out; clear HA
    simp only [laws_FnModulesOf.j0] at H
    by_cases c20 : x23_4 = true
    ·subst c20
     have H1 : ((spec_ModulesOf.f kj4 t808).bind fun t819 => ((laws_equalTexts.f kj4 t811 t819).bind fun t822 => (some t822))) = some r := by rw [if_pos rfl] at H; exact H
     clear H; have H := H1; clear H1
     replace H := Option.bind_eq_some_iff.mp H
     obtain ⟨t819, A210, H⟩ := H
     replace H : ((laws_equalTexts.f kj4 t811 t819).bind fun t822 => (some t822)) = some r := H
     have A21 := Aside0.mk A210; clear A210
     replace H := Option.bind_eq_some_iff.mp H
     obtain ⟨t822, A220, H⟩ := H
     replace H : (some t822) = some r := H
     have A22 := Aside0.mk A220; clear A220
     obtain rfl := Option.some.inj H
     go_wp2_with (first | ((with_reducible refine gate_callee (f := 38) rfl ?_); refine goesL_ (some 26) rfl rfl Try.func38 (by kernel_rfl) rfl #[.slice Ao7 t808.length co7] rfl (by (try simp only [List.map_toArray, List.map_cons, List.map_nil]); first | done | rfl) ?_; (with_reducible refine (spec_ModulesOf.calls kj4 _ _ t808 t819 _ ?side1 ?side2 A21.out).mono ?_); (case side1 => repeat (first | exact (Kd.N_reads' HO_3.out).2.2 | with_reducible first | apply Kd.C_alloc | apply Kd.C_drewN | apply Kd.C_drew)); (case side2 => exact (Kd.N_reads' HO_3.out).2.1); rintro e w23 ⟨v820, rfl, ho0, hb⟩; refine ⟨_, rfl, ?_⟩; replace HO_3 := Aside0.mk (Kd.N_elder' (by (with_reducible repeat (first | apply Kd.N_alloc | apply Kd.N_drewN | apply Kd.N_drew)); exact HO_3.out) (Kd.R_base ho0) hb); have HO821 := Aside0.mk (Kd.R_lower (Kd.R_new' ho0 (Kd.R_lt (by (with_reducible repeat first | apply Kd.R_alloc | apply Kd.R_drewN | apply Kd.R_drew); exact HO_4.out))) (below_size (by repeat first | (with_reducible first | exact HB.out | apply below_alloc | apply pw_below_drewN | apply below_drew1) | exact HB.out))); replace HO_4 := Aside0.mk (Kd.R_elder' (by (with_reducible repeat first | apply Kd.R_alloc | apply Kd.R_drewN | apply Kd.R_drew); exact HO_4.out) (Kd.R_base ho0) hb); replace HB := Aside0.mk (below_step (by repeat first | (with_reducible first | exact HB.out | apply below_alloc | apply pw_below_drewN | apply below_drew1) | exact HB.out) hb); (try clear hb); (try clear ho0); obtain ⟨Ao24, co24, eo24⟩ := Kd.R_slice HO_4.out; subst eo24; obtain ⟨Ao25, co25, eo25⟩ := Kd.R_slice HO821.out; subst eo25) | ((with_reducible refine gate_callee (f := 32) rfl ?_); refine goesL_ (some 27) rfl rfl Try.func32 (by kernel_rfl) rfl #[.slice Ao24 t811.length co24, .slice Ao25 t819.length co25] rfl (by (try simp only [List.map_toArray, List.map_cons, List.map_nil]); first | done | rfl) ?_; (with_reducible refine (laws_equalTexts.calls kj4 _ _ t811 _ _ t819 t822 _ ?side1 ?side2 ?side3 ?side4 A22.out).mono ?_); (case side1 => repeat (first | exact (Kd.R_reads' HO_4.out).2.2 | with_reducible first | apply Kd.C_alloc | apply Kd.C_drewN | apply Kd.C_drew)); (case side2 => exact (Kd.R_reads' HO_4.out).2.1); (case side3 => repeat (first | exact (Kd.R_reads' HO821.out).2.2 | with_reducible first | apply Kd.C_alloc | apply Kd.C_drewN | apply Kd.C_drew)); (case side4 => exact (Kd.R_reads' HO821.out).2.1); rintro e w' ⟨rfl, ⟨nd, rfl⟩⟩; refine ⟨_, rfl, ?_⟩))
     go_ret
     exact ⟨by first | rfl | (simp [errW_none, errW_some] <;> rfl) | (simp [*, errW_none, errW_some] <;> rfl), by repeat (first | (with_reducible first | exact HB.out | apply below_alloc | apply pw_below_drewN | apply below_drew1) | exact HB.out)⟩
    ·replace c20 := Bool.eq_false_iff.mpr c20
     subst c20
     have H1 : (laws_FnModulesOf.l0 kj4 t808 t811 0 0) = some r := by rw [if_neg (show ¬ (false = true) by decide)] at H; exact H
     clear H; have H := H1; clear H1; have H' := Aside0.mk H; clear H
     go_wp2
     go_loopg [5, 6] kj4 (fun kq v5 v6 w' => ∃ (x5_2 : Int) (x6_2 : Int), v5 = .int .i64 x5_2 ∧ v6 = .int .i64 x6_2 ∧ Aside0 (laws_FnModulesOf.l0 kq t808 t811 x5_2 x6_2 = some r) ∧ Aside0 (kq ≤ kj4) ∧ Aside0 (Kd.N k28 28 w' w.heap.size (fun k_ => some k_ ≠ (v812 : Value).ownBlock) (.slice Ao7 t808.length co7) t808) ∧ Aside0 (Kd.R Kd.string 9 w' w.heap.size (fun _ => True) v812 t811) ∧ Aside0 (Below w.heap.size w w'))
     case atStart => exact ⟨(0), (0), (by first | rfl | (simp; done) | (simp [*]; done)), (by first | rfl | (simp; done) | (simp [*]; done)), H', ⟨Nat.le_refl _⟩, ⟨by (with_reducible repeat (first | apply Kd.N_alloc | apply Kd.N_drewN | apply Kd.N_drew)); exact HO_3.out⟩, ⟨by (with_reducible repeat first | apply Kd.R_alloc | apply Kd.R_drewN | apply Kd.R_drew); exact HO_4.out⟩, ⟨by repeat (first | (with_reducible first | exact HB.out | apply below_alloc | apply pw_below_drewN | apply below_drew1) | exact HB.out)⟩⟩
     case round =>
      clear H'; try clear c1; try clear c2; try clear c2b0; try clear c2b1; try clear p2; try clear c3; try clear c10; try clear c11; try clear c20; try clear p2
      obtain ⟨x5_2, x6_2, rfl, rfl, HA, HK2, HO_3, HO_4, HB⟩ := hrel
      cases gk with
      | zero => exact absurd HA.out (by simp [laws_FnModulesOf.l0])
      | succ k2 =>
       have H := HA.out; clear HA
       simp only [laws_FnModulesOf.l0] at H
       by_cases c26 : x6_2 < (t811.length : Int)
       ·rw [if_pos c26] at H
        have c26b0 : decide (x6_2 < (t811.length : Int)) = true := decide_eq_true c26
        clear c26
        by_cases c27 : 0 ≤ x6_2
        ·rw [if_pos c27] at H
         have c27b0 : decide (0 ≤ x6_2) = true := decide_eq_true c27
         clear c27
         by_cases c28 : 1 + (rdOf ByteArray.empty t811 x6_2).size ≤ 9223372036854775807
         ·rw [if_pos c28] at H
          have c28b0 := eq_true c28
          have c28b1 : decide (1 + (rdOf ByteArray.empty t811 x6_2).size ≤ 9223372036854775807) = true := decide_eq_true c28
          try have c28b2 : (9223372036854775807 < 1 + (rdOf ByteArray.empty t811 x6_2).size) = False := eq_false (Nat.not_lt.2 c28)
          replace H := Option.bind_eq_some_iff.mp H
          obtain ⟨t824, A290, H⟩ := H
          replace H : (laws_FnModulesOf.l0 k2 t808 t811 (wrap64 (x5_2 + (t824.length : Int))) (wrap64 (x6_2 + 1))) = some r := H
          have A29 := Aside0.mk A290; clear A290; have H' := Aside0.mk H; clear H
          obtain ⟨Ao30, co30, eo30⟩ := Kd.R_slice HO_4.out
          subst eo30
          have p823 : 0 ≤ (x6_2 : Int) := of_decide_eq_true (by first | (with_reducible assumption) | assumption)
          have q823 : x6_2 < (t811.length : Int) := of_decide_eq_true (by first | (with_reducible assumption) | assumption)
          obtain ⟨ad823, e823, hx823_0⟩ := Kd.at_string (Kd.R_reads' HO_4.out).2.2 x6_2 p823 q823
          cases e823
          replace p823 := eq_true p823
          replace q823 := eq_true q823
          go_wp2_with (first | ((with_reducible refine gate_callee (f := 40) rfl ?_); refine goesL_ (some 41) rfl rfl Try.func40 (by kernel_rfl) rfl #[.slice Ao7 t808.length co7, .string ((⟨#[64]⟩ : ByteArray) ++ (rdOf ByteArray.empty t811 x6_2))] rfl (by (try simp only [List.map_toArray, List.map_cons, List.map_nil]); first | done | rfl) ?_; (with_reducible refine (impl_SelectTests.calls k2 (fun k_ => some k_ ≠ (.slice (some ad823) t811.length co30 : Value).ownBlock) _ _ t808 ((⟨#[64]⟩ : ByteArray) ++ (rdOf ByteArray.empty t811 x6_2)) t824 _ ?side1 A29.out).mono ?_); (case side1 => exact Kd.N_V (HO_3.out)); rintro e w31 ⟨v825, rfl, ho0, hb⟩; refine ⟨_, rfl, ?_⟩; replace HO_3 := Aside0.mk (Kd.N_elder' (by (with_reducible repeat (first | apply Kd.N_alloc | apply Kd.N_drewN | apply Kd.N_drew)); exact HO_3.out) (Kd.N_base ho0) hb); have HO826 := Aside0.mk (Kd.N_lower (Kd.N_mono (ok' := fun k_ => some k_ ≠ (.slice (some ad823) t811.length co30 : Value).ownBlock) ho0 (fun k_ hk_ => Or.elim hk_ (fun hs_ => hs_) (fun hn_ => (Kd.fresh' (Kd.R_lt (by (with_reducible repeat first | apply Kd.R_alloc | apply Kd.R_drewN | apply Kd.R_drew); exact HO_4.out)) k_ hn_)))) (below_size (by repeat first | (with_reducible first | exact HB.out | apply below_alloc | apply pw_below_drewN | apply below_drew1) | exact HB.out))); replace HO_4 := Aside0.mk (Kd.R_below (by (with_reducible repeat first | apply Kd.R_alloc | apply Kd.R_drewN | apply Kd.R_drew); exact HO_4.out) hb); replace HB := Aside0.mk (below_step (by repeat first | (with_reducible first | exact HB.out | apply below_alloc | apply pw_below_drewN | apply below_drew1) | exact HB.out) hb); (try clear hb); (try clear ho0); obtain ⟨Ao32, co32, eo32⟩ := Kd.N_slice HO826.out; subst eo32))
          go_roundg k2
          case measure => have := HJ4.out; have := HK2.out; omega
          case rel => exact ⟨(wrap64 (x5_2 + (t824.length : Int))), (wrap64 (x6_2 + 1)), (by first | rfl | (simp; done) | (simp [*]; done)), (by first | rfl | (simp; done) | (simp [*]; done)), H', ⟨by have := HJ4.out; have := HK2.out; omega⟩, ⟨by (with_reducible repeat (first | apply Kd.N_alloc | apply Kd.N_drewN | apply Kd.N_drew)); exact Kd.N_mono HO_3.out (fun _ hk => hk.1)⟩, ⟨by (with_reducible repeat first | apply Kd.R_alloc | apply Kd.R_drewN | apply Kd.R_drew); exact HO_4.out⟩, ⟨by repeat (first | (with_reducible first | exact HB.out | apply below_alloc | apply pw_below_drewN | apply below_drew1) | exact HB.out)⟩⟩
         ·rw [if_neg c28] at H
          exact absurd H (by simp)
        ·rw [if_neg c27] at H
         exact absurd H (by simp)
       ·rw [if_neg c26] at H
        have c26b0 : decide (x6_2 < (t811.length : Int)) = false := decide_eq_false c26
        clear c26
        replace H := Option.bind_eq_some_iff.mp H
        obtain ⟨t827, A330, H⟩ := H
        replace H : (if t827 = true then (some (x5_2 == (t808.length : Int))) else (some false)) = some r := H
        have A33 := Aside0.mk A330; clear A330
        by_cases c34 : t827 = true
        ·subst c34
         have H1 : (some (x5_2 == (t808.length : Int))) = some r := by rw [if_pos rfl] at H; exact H
         clear H; have H := H1; clear H1
         obtain rfl := Option.some.inj H
         obtain ⟨Ao35, co35, eo35⟩ := Kd.R_slice HO_4.out
         subst eo35
         go_wp2_with (first | ((with_reducible refine gate_callee (f := 34) rfl ?_); refine goesL_ (some 45) rfl rfl Try.func34 (by kernel_rfl) rfl #[.slice Ao35 t811.length co35] rfl (by (try simp only [List.map_toArray, List.map_cons, List.map_nil]); first | done | rfl) ?_; (with_reducible refine (laws_apart.calls k2 _ _ t811 true _ ?side1 ?side2 A33.out).mono ?_); (case side1 => repeat (first | exact (Kd.R_reads' HO_4.out).2.2 | with_reducible first | apply Kd.C_alloc | apply Kd.C_drewN | apply Kd.C_drew)); (case side2 => exact (Kd.R_reads' HO_4.out).2.1); rintro e w' ⟨rfl, ⟨nd, rfl⟩⟩; refine ⟨_, rfl, ?_⟩))
         go_ret
         exact ⟨by first | rfl | (simp [errW_none, errW_some] <;> rfl) | (simp [*, errW_none, errW_some] <;> rfl), by repeat (first | (with_reducible first | exact HB.out | apply below_alloc | apply pw_below_drewN | apply below_drew1) | exact HB.out)⟩
        ·replace c34 := Bool.eq_false_iff.mpr c34
         subst c34
         have H1 : (some false) = some r := by rw [if_neg (show ¬ (false = true) by decide)] at H; exact H
         clear H; have H := H1; clear H1
         obtain rfl := Option.some.inj H
         obtain ⟨Ao36, co36, eo36⟩ := Kd.R_slice HO_4.out
         subst eo36
         go_wp2_with (first | ((with_reducible refine gate_callee (f := 34) rfl ?_); refine goesL_ (some 45) rfl rfl Try.func34 (by kernel_rfl) rfl #[.slice Ao36 t811.length co36] rfl (by (try simp only [List.map_toArray, List.map_cons, List.map_nil]); first | done | rfl) ?_; (with_reducible refine (laws_apart.calls k2 _ _ t811 false _ ?side1 ?side2 A33.out).mono ?_); (case side1 => repeat (first | exact (Kd.R_reads' HO_4.out).2.2 | with_reducible first | apply Kd.C_alloc | apply Kd.C_drewN | apply Kd.C_drew)); (case side2 => exact (Kd.R_reads' HO_4.out).2.1); rintro e w' ⟨rfl, ⟨nd, rfl⟩⟩; refine ⟨_, rfl, ?_⟩))
         go_ret
         exact ⟨by first | rfl | (simp [errW_none, errW_some] <;> rfl) | (simp [*, errW_none, errW_some] <;> rfl), by repeat (first | (with_reducible first | exact HB.out | apply below_alloc | apply pw_below_drewN | apply below_drew1) | exact HB.out)⟩

/-- THE ONE PURE STATEMENT of laws_FnModulesOf: yours. -/
def laws_FnModulesOf.Pure : Prop := ∀ (l0 : List Int), l0.length ≤ maxLen → l0.length * 1 ≤ 140737488351232 → (∀ x ∈ l0, (Lit.int .u8 x).wf = true) → ∃ k, laws_FnModulesOf.f k l0 = some true
theorem laws_FnModulesOf.walk (P : laws_FnModulesOf.Pure) (a0 : Option Addr) (len0 cap0 : Nat) (z0 : List Int) (w : World) (w0 : (a0 = none ∧ len0 = 0 ∧ cap0 = 0 ∧ z0 = []) ∨ ∃ x, a0 = some x ∧ len0 ≤ cap0 ∧ cap0 ≤ maxLen ∧ z0.length = cap0 ∧ (∀ i, i < z0.length → w.cell? (x.add i) = some (.int .u8 (z0.getD i 0))) ∧ ∀ n ∈ z0, (Lit.int .u8 n).wf = true) (y0 : len0 * 1 ≤ 140737488351232) :
  Calls Try.prog 10 #[.slice a0 len0 cap0] w fun e w' => e = .returned (.bool true) ∧ Below w.heap.size w w' := by
 obtain ⟨l0, rfl, hr0, hm0, hw0, hc0⟩ := ReadsInt.ofRowC w0
 obtain ⟨k, h⟩ := P l0 hm0 y0 hw0
 refine (laws_FnModulesOf.calls k _ _ l0 true w (Kd.C_of_reads (d := (0 : Int)) (h1 := fun _ => rfl) hr0) hc0 h).mono ?_
 rintro e w' ⟨rfl, hd⟩
 exact ⟨rfl, hd⟩

end Go.Proofs.Ytdllommmccgleaa.E
