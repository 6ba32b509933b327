-- WRITTEN by wip/ext.py
import Derived.Test.YtdllommmccgleaaEx0
import Derived.Test.YtdllommmccgleaaEx3
import Derived.Test.YtdllommmccgleaaEx12
import Derived.Test.YtdllommmccgleaaEx30
namespace Go.Proofs.Ytdllommmccgleaa.E
open Go.RowKit Go.Proofs.YtdllommmccgleaaW.PrintWords Go.Proofs.YtdllommmccgleaaW.PrintLast Go.Proofs.YtdllommmccgleaaW.PrintMore
attribute [local go_sem] max2_int min2_int max_two min_two max_three min_three max_four min_four   -- for this text's walks alone
set_option linter.unusedVariables false
set_option linter.unusedSimpArgs false

/-! ### impl_ValidTests: function 39 -/
def impl_ValidTests.l0 : Nat → List (S28) → List ByteArray → List (S28) → Int → Int → Option (Bool)
 | 0, _, _, _, _, _ => none
 | k + 1, x0, x3, x7, x8, x9 => if x9 < x8 then (if 0 ≤ x9 then (if x9 < (x7.length : Int) then ((impl_testOk.f k ((rd_T28 x7 x9).f0) ((rd_T28 x7 x9).f1) ((rd_T28 x7 x9).f2) ((rd_T28 x7 x9).f3)).bind fun t726 => (if t726 = true then ((impl_idOf.f ((rd_T28 x7 x9).f0) ((rd_T28 x7 x9).f1) ((rd_T28 x7 x9).f2) ((rd_T28 x7 x9).f3)).bind fun t727 => ((slices_Contains_string_string.f k x3 t727).bind fun t728 => (if t728 = true then (some false) else ((impl_idOf.f ((rd_T28 x7 x9).f0) ((rd_T28 x7 x9).f1) ((rd_T28 x7 x9).f2) ((rd_T28 x7 x9).f3)).bind fun t729 => (if x3.length < 8796093022208 then (impl_ValidTests.l0 k x0 (x3 ++ [t729]) x7 x8 (wrap64 (x9 + 1))) else (none)))))) else (some false))) else (none)) else (none)) else (some (decide ((x0.length : Int) ≤ 10)))
def impl_ValidTests.f (k : Nat) (l0 : List (S28)) : Option (Bool) := impl_ValidTests.l0 k l0 (([] : List ByteArray)) l0 (l0.length : Int) 0
theorem impl_ValidTests.mono_l : ∀ k, (∀ y0 y1 y2 y3 y4, LeO (impl_ValidTests.l0 k y0 y1 y2 y3 y4) (impl_ValidTests.l0 (k + 1) y0 y1 y2 y3 y4))
 | 0 => fun _ _ _ _ _ r h => by simp [impl_ValidTests.l0] at h
 | k + 1 => by
  have ih0 := impl_ValidTests.mono_l k
  ·intro y0 y1 y2 y3 y4
   unfold impl_ValidTests.l0
   repeat' first
   | (with_reducible exact ih0 _ _ _ _ _)
   | (with_reducible exact impl_testOk.mono _ _ _ _ _)
   | (with_reducible exact slices_Contains_string_string.mono _ _ _)
   | (with_reducible exact LeO.refl _)
   | (with_reducible exact LeO.none _)
   | (with_reducible refine LeO.ite ?_ ?_)
   | (with_reducible refine LeO.bind ?_ (fun _ => ?_))
   | refine LeO.ite ?_ ?_
   | refine LeO.bind ?_ (fun _ => ?_)
theorem impl_ValidTests.mono : ∀ a0 k, LeO (impl_ValidTests.f k a0) (impl_ValidTests.f (k + 1) a0) := by
 intro a0 k
 have ih0 := impl_ValidTests.mono_l k
 unfold impl_ValidTests.f
 repeat' first
   | (with_reducible exact ih0 _ _ _ _ _)
   | (with_reducible exact impl_testOk.mono _ _ _ _ _)
   | (with_reducible exact slices_Contains_string_string.mono _ _ _)
   | (with_reducible exact LeO.refl _)
   | (with_reducible exact LeO.none _)
   | (with_reducible refine LeO.ite ?_ ?_)
   | (with_reducible refine LeO.bind ?_ (fun _ => ?_))
   | refine LeO.ite ?_ ?_
   | refine LeO.bind ?_ (fun _ => ?_)
set_option maxHeartbeats 8000000 in
set_option maxRecDepth 100000 in
theorem impl_ValidTests.calls (k : Nat) (A0 : Option Addr) (c0 : Nat) (l0 : List (S28)) (r : Bool) (w : World) (hr0 : Kd.C k28 w A0 l0.length l0) (hc0 : l0.length ≤ c0) (h : impl_ValidTests.f k l0 = some r) :
  Calls Try.prog 39 #[.slice A0 l0.length c0] w fun e w' => e = .returned (.bool r) ∧ Below w.heap.size w w' := by
 have hu28 := Try.underlying28; have HR0 := Aside0.mk hr0; have HC0 := Aside0.mk hc0; clear hr0 hc0; have HB := Aside0.mk (Below.refl w.heap.size w)
 have H : (impl_ValidTests.l0 k l0 (([] : List ByteArray)) l0 (l0.length : Int) 0) = some r := h
 clear h
 obtain ⟨y721, hy721⟩ : ∃ y_ : List ByteArray, y_ = (([] : List ByteArray)) := ⟨_, rfl⟩
 replace H : (impl_ValidTests.l0 k l0 y721 l0 (l0.length : Int) 0) = some r := by first | (rw [hy721]; with_reducible exact H) | (have H2_ := (Option.bind_some _ _).symm.trans H; rw [hy721]; with_reducible exact H2_) | (have H2_ := (Option.bind_some _ _).symm.trans H; with_reducible exact H2_) | with_reducible exact H | (rw [hy721]; exact H) | exact H
 have Ny721 := Aside0.mk hy721; clear hy721; have H' := Aside0.mk H; clear H
 go_enter Try.func39, Try.ntmps39
 go_wp2_with (first | ((with_reducible refine gate_dst (N := 6) rfl ?_); refine Kd.R_lit Kd.string _ 9 ?hg (N := 6) ?hd (xs := ([] : List ByteArray)) (inner := []) (ok := fun _ => True) (okp := fun _ => True) ?hr ?hp (fun _ hk => hk) trivial (Below.refl _ _) (Nat.le_refl _) (by simp) ?_; (case hd => rfl); (case hg => rfl); (case hr => first | (go_simp; done) | (go_simp; rfl)); (case hp => exact (Reps.none _ _)); intro v722 w2 ho3 hb hg_ hnew_; clear hg_ hnew_; (first | rw [← Ny721.out] at ho3 | (simp only [Int.reduceToNat] at ho3; rw [← Ny721.out] at ho3)); have HO723 := Aside0.mk (Kd.R_lower ho3 (below_size (by repeat first | (with_reducible first | exact HB.out | apply below_alloc | apply pw_below_drewN | apply below_drew1) | exact HB.out))); replace HB := Aside0.mk (below_step (by repeat first | (with_reducible first | exact HB.out | apply below_alloc | apply pw_below_drewN | apply below_drew1) | exact HB.out) hb); clear hb ho3))
 go_loopg [3, 9] k (fun kq v3 v9 w' => ∃ (x3_1 : List ByteArray) (x9_1 : Int), v9 = .int .i64 x9_1 ∧ Aside0 (impl_ValidTests.l0 kq l0 x3_1 l0 (l0.length : Int) x9_1 = some r) ∧ Aside0 (kq ≤ k) ∧ Aside0 (Kd.R Kd.string 9 w' w.heap.size (fun _ => True) v3 x3_1) ∧ Aside0 (Below w.heap.size w w'))
 case atStart => exact ⟨(y721), (0), (by first | rfl | (simp; done) | (simp [*]; done)), H', ⟨Nat.le_refl _⟩, ⟨by (with_reducible repeat first | apply Kd.R_alloc | apply Kd.R_drewN | apply Kd.R_drew); exact HO723.out⟩, ⟨by repeat (first | (with_reducible first | exact HB.out | apply below_alloc | apply pw_below_drewN | apply below_drew1) | exact HB.out)⟩⟩
 case round =>
  clear H'; try clear p2; try clear c3
  obtain ⟨x3_1, x9_1, rfl, HA, HK1, HO_3, HB⟩ := hrel
  cases gk with
  | zero => exact absurd HA.out (by simp [impl_ValidTests.l0])
  | succ k1 =>
   have H := HA.out; clear HA
   simp only [impl_ValidTests.l0] at H
   by_cases c4 : x9_1 < (l0.length : Int)
   ·rw [if_pos c4] at H
    have c4b0 : decide (x9_1 < (l0.length : Int)) = true := decide_eq_true c4
    clear c4
    by_cases c5 : 0 ≤ x9_1
    ·rw [if_pos c5] at H
     have c5b0 : decide (0 ≤ x9_1) = true := decide_eq_true c5
     clear c5
     by_cases c6 : x9_1 < (l0.length : Int)
     ·rw [if_pos c6] at H
      have c6b0 : decide (x9_1 < (l0.length : Int)) = true := decide_eq_true c6
      clear c6
      replace H := Option.bind_eq_some_iff.mp H
      obtain ⟨t726, A70, H⟩ := H
      replace H : (if t726 = true then ((impl_idOf.f ((rd_T28 l0 x9_1).f0) ((rd_T28 l0 x9_1).f1) ((rd_T28 l0 x9_1).f2) ((rd_T28 l0 x9_1).f3)).bind fun t727 => ((slices_Contains_string_string.f k1 x3_1 t727).bind fun t728 => (if t728 = true then (some false) else ((impl_idOf.f ((rd_T28 l0 x9_1).f0) ((rd_T28 l0 x9_1).f1) ((rd_T28 l0 x9_1).f2) ((rd_T28 l0 x9_1).f3)).bind fun t729 => (if x3_1.length < 8796093022208 then (impl_ValidTests.l0 k1 l0 (x3_1 ++ [t729]) l0 (l0.length : Int) (wrap64 (x9_1 + 1))) else (none)))))) else (some false)) = some r := H
      have A7 := Aside0.mk A70; clear A70
      by_cases c8 : t726 = true
      ·subst c8
       have H1 : ((impl_idOf.f ((rd_T28 l0 x9_1).f0) ((rd_T28 l0 x9_1).f1) ((rd_T28 l0 x9_1).f2) ((rd_T28 l0 x9_1).f3)).bind fun t727 => ((slices_Contains_string_string.f k1 x3_1 t727).bind fun t728 => (if t728 = true then (some false) else ((impl_idOf.f ((rd_T28 l0 x9_1).f0) ((rd_T28 l0 x9_1).f1) ((rd_T28 l0 x9_1).f2) ((rd_T28 l0 x9_1).f3)).bind fun t729 => (if x3_1.length < 8796093022208 then (impl_ValidTests.l0 k1 l0 (x3_1 ++ [t729]) l0 (l0.length : Int) (wrap64 (x9_1 + 1))) else (none)))))) = some r := by rw [if_pos rfl] at H; exact H
       clear H; have H := H1; clear H1
       replace H := Option.bind_eq_some_iff.mp H
       obtain ⟨t727, A90, H⟩ := H
       replace H : ((slices_Contains_string_string.f k1 x3_1 t727).bind fun t728 => (if t728 = true then (some false) else ((impl_idOf.f ((rd_T28 l0 x9_1).f0) ((rd_T28 l0 x9_1).f1) ((rd_T28 l0 x9_1).f2) ((rd_T28 l0 x9_1).f3)).bind fun t729 => (if x3_1.length < 8796093022208 then (impl_ValidTests.l0 k1 l0 (x3_1 ++ [t729]) l0 (l0.length : Int) (wrap64 (x9_1 + 1))) else (none))))) = some r := H
       have A9 := Aside0.mk A90; clear A90
       replace H := Option.bind_eq_some_iff.mp H
       obtain ⟨t728, A100, H⟩ := H
       replace H : (if t728 = true then (some false) else ((impl_idOf.f ((rd_T28 l0 x9_1).f0) ((rd_T28 l0 x9_1).f1) ((rd_T28 l0 x9_1).f2) ((rd_T28 l0 x9_1).f3)).bind fun t729 => (if x3_1.length < 8796093022208 then (impl_ValidTests.l0 k1 l0 (x3_1 ++ [t729]) l0 (l0.length : Int) (wrap64 (x9_1 + 1))) else (none)))) = some r := H
       have A10 := Aside0.mk A100; clear A100
       by_cases c11 : t728 = true
       ·subst c11
        have H1 : (some false) = some r := by rw [if_pos rfl] at H; exact H
        clear H; have H := H1; clear H1
        obtain rfl := Option.some.inj H
        have p724 : 0 ≤ (x9_1 : Int) := of_decide_eq_true (by first | (with_reducible assumption) | assumption)
        have q724 : x9_1 < (l0.length : Int) := of_decide_eq_true (by first | (with_reducible assumption) | assumption)
        obtain ⟨ad724, A724_2, c724_2, A724_3, c724_3, e724, hx724_0, hx724_1, hx724_2, hx724_3, hl724_2, hi724_2, hl724_3, hi724_3⟩ := at_T28 HR0.out x9_1 p724 q724
        cases e724
        replace hx724_0 := cup_ HB.out hx724_0; replace hx724_1 := cup_ HB.out hx724_1; replace hx724_2 := cup_ HB.out hx724_2; replace hx724_3 := cup_ HB.out hx724_3
        have HR724_2 := Aside0.mk hi724_2; have HC724_2 := Aside0.mk hl724_2; clear hi724_2 hl724_2; have HR724_3 := Aside0.mk hi724_3; have HC724_3 := Aside0.mk hl724_3; clear hi724_3 hl724_3
        replace p724 := eq_true p724
        replace q724 := eq_true q724
        go_wp2_with (first | ((with_reducible refine gate_dst (N := 5) rfl ?_); refine box_event ?hg (N := 5) ?hd (cs := #[.string (⟨#[]⟩ : ByteArray), .string (⟨#[]⟩ : ByteArray), .slice none 0 0, .slice none 0 0]) (t := 28) ?hr ?_; (case hd => rfl); (case hg => rfl); (case hr => first | (go_simp; done) | (go_simp; rfl)); intro gb725 hg w12 hbox hb; replace HO_3 := Aside0.mk (Kd.R_below (by (with_reducible repeat first | apply Kd.R_alloc | apply Kd.R_drewN | apply Kd.R_drew); exact HO_3.out) hb); have BK725 := Aside0.mk (hbox); have GW725 := Aside0.mk ((by rw [hg]; exact (below_size (by repeat first | (with_reducible first | exact HB.out | apply below_alloc | apply pw_below_drewN | apply below_drew1) | exact HB.out)) : w.heap.size ≤ gb725)); have GE725 := Aside0.mk ((by rw [hg]; exact (below_size (by repeat first | (with_reducible first | exact HB.out | apply below_alloc | apply pw_below_drewN | apply below_drew1) | exact HB.out)) : w.heap.size ≤ gb725)); replace HB := Aside0.mk (below_step (by repeat first | (with_reducible first | exact HB.out | apply below_alloc | apply pw_below_drewN | apply below_drew1) | exact HB.out) hb); clear hb hbox hg; have hcz13_0 : w12.cell? ⟨gb725, 0, none⟩ = some (.string (⟨#[]⟩ : ByteArray)) := (blk_cell BK725.out 0).trans rfl; have hcz13_1 : w12.cell? ⟨gb725, 1, none⟩ = some (.string (⟨#[]⟩ : ByteArray)) := (blk_cell BK725.out 1).trans rfl; have hcz13_2 : w12.cell? ⟨gb725, 2, none⟩ = some (.slice none 0 0) := (blk_cell BK725.out 2).trans rfl; have hcz13_3 : w12.cell? ⟨gb725, 3, none⟩ = some (.slice none 0 0) := (blk_cell BK725.out 3).trans rfl; have hfz13_0 := blk_frozen BK725.out 0; have hfz13_1 := blk_frozen BK725.out 1; have hfz13_2 := blk_frozen BK725.out 2; have hfz13_3 := blk_frozen BK725.out 3) | ((with_reducible refine gate_callee (f := 52) rfl ?_); refine goesL_ (some 14) rfl rfl Try.func52 (by kernel_rfl) rfl #[.agg #[.string ((rd_T28 l0 x9_1).f0), .string ((rd_T28 l0 x9_1).f1), .slice A724_2 ((rd_T28 l0 x9_1).f2).length c724_2, .slice A724_3 ((rd_T28 l0 x9_1).f3).length c724_3]] rfl (by (try simp only [List.map_toArray, List.map_cons, List.map_nil]); first | done | rfl) ?_; (with_reducible refine (impl_testOk.calls k1 ((rd_T28 l0 x9_1).f0) ((rd_T28 l0 x9_1).f1) _ _ ((rd_T28 l0 x9_1).f2) _ _ ((rd_T28 l0 x9_1).f3) true _ ?side1 ?side2 ?side3 ?side4 A7.out).mono ?_); (case side1 => exact Kd.C_below HR724_2.out (by repeat first | (with_reducible first | exact HB.out | apply below_alloc | apply pw_below_drewN | apply below_drew1 | refine below_set ?_ GE725.out) | exact HB.out)); (case side2 => exact HC724_2.out); (case side3 => exact Kd.C_below HR724_3.out (by repeat first | (with_reducible first | exact HB.out | apply below_alloc | apply pw_below_drewN | apply below_drew1 | refine below_set ?_ GE725.out) | exact HB.out)); (case side4 => exact HC724_3.out); rintro e w14 ⟨rfl, hb⟩; refine ⟨_, rfl, ?_⟩; replace HO_3 := Aside0.mk (Kd.R_below (by (with_reducible repeat first | apply Kd.R_alloc | apply Kd.R_drewN | apply Kd.R_drew); exact (Kd.R_mono (Kd.R_far (p := ⟨gb725, 3, none⟩) (Kd.R_far (p := ⟨gb725, 2, none⟩) (Kd.R_far (p := ⟨gb725, 1, none⟩) (Kd.R_far (p := ⟨gb725, 0, none⟩) (Kd.R_types HO_3.out BK725.out (by decide)) (fun _ hk => hk.2) (.string ((rd_T28 l0 x9_1).f0))) (fun _ hk => hk.2) (.string ((rd_T28 l0 x9_1).f1))) (fun _ hk => hk.2) (.slice A724_2 ((rd_T28 l0 x9_1).f2).length c724_2)) (fun _ hk => hk.2) (.slice A724_3 ((rd_T28 l0 x9_1).f3).length c724_3)) (fun _ h_ => h_.1))) hb); replace BK725 := Aside0.mk (blk_below (g := gb725) (o := .cells #[.string ((rd_T28 l0 x9_1).f0), .string ((rd_T28 l0 x9_1).f1), .slice A724_2 ((rd_T28 l0 x9_1).f2).length c724_2, .slice A724_3 ((rd_T28 l0 x9_1).f3).length c724_3] 28 (0, 0)) (by (with_reducible repeat first | apply blk_drewN | apply blk_drew | apply blk_alloc); refine blk_put (cs := #[.string ((rd_T28 l0 x9_1).f0), .string ((rd_T28 l0 x9_1).f1), .slice A724_2 ((rd_T28 l0 x9_1).f2).length c724_2, .slice none 0 0]) ?_ 3 _ rfl; (with_reducible repeat first | apply blk_drewN | apply blk_drew | apply blk_alloc); refine blk_put (cs := #[.string ((rd_T28 l0 x9_1).f0), .string ((rd_T28 l0 x9_1).f1), .slice none 0 0, .slice none 0 0]) ?_ 2 _ rfl; (with_reducible repeat first | apply blk_drewN | apply blk_drew | apply blk_alloc); refine blk_put (cs := #[.string ((rd_T28 l0 x9_1).f0), .string (⟨#[]⟩ : ByteArray), .slice none 0 0, .slice none 0 0]) ?_ 1 _ rfl; (with_reducible repeat first | apply blk_drewN | apply blk_drew | apply blk_alloc); refine blk_put (cs := #[.string (⟨#[]⟩ : ByteArray), .string (⟨#[]⟩ : ByteArray), .slice none 0 0, .slice none 0 0]) ?_ 0 _ rfl; (with_reducible repeat first | apply blk_drewN | apply blk_drew | apply blk_alloc); exact BK725.out) hb); replace HB := Aside0.mk (below_step (by repeat first | (with_reducible first | exact HB.out | apply below_alloc | apply pw_below_drewN | apply below_drew1 | refine below_set ?_ GE725.out) | exact HB.out) hb); (try clear hb); have hcz15_0 : w14.cell? ⟨gb725, 0, none⟩ = some (.string ((rd_T28 l0 x9_1).f0)) := (blk_cell BK725.out 0).trans rfl; have hcz15_1 : w14.cell? ⟨gb725, 1, none⟩ = some (.string ((rd_T28 l0 x9_1).f1)) := (blk_cell BK725.out 1).trans rfl; have hcz15_2 : w14.cell? ⟨gb725, 2, none⟩ = some (.slice A724_2 ((rd_T28 l0 x9_1).f2).length c724_2) := (blk_cell BK725.out 2).trans rfl; have hcz15_3 : w14.cell? ⟨gb725, 3, none⟩ = some (.slice A724_3 ((rd_T28 l0 x9_1).f3).length c724_3) := (blk_cell BK725.out 3).trans rfl; have hfz15_0 := blk_frozen BK725.out 0; have hfz15_1 := blk_frozen BK725.out 1; have hfz15_2 := blk_frozen BK725.out 2; have hfz15_3 := blk_frozen BK725.out 3) | (go_at_call 65; (with_reducible refine (impl_idOf.calls ((rd_T28 l0 x9_1).f0) ((rd_T28 l0 x9_1).f1) _ _ ((rd_T28 l0 x9_1).f2) _ _ ((rd_T28 l0 x9_1).f3) t727 _ ?side1 ?side2 ?side3 ?side4 A9.out).mono ?_); (case side1 => repeat (first | exact (Kd.C_below HR724_2.out HB.out) | with_reducible first | apply Kd.C_alloc | apply Kd.C_drewN | apply Kd.C_drew)); (case side2 => exact HC724_2.out); (case side3 => repeat (first | exact (Kd.C_below HR724_3.out HB.out) | with_reducible first | apply Kd.C_alloc | apply Kd.C_drewN | apply Kd.C_drew)); (case side4 => exact HC724_3.out); rintro e w16 ⟨rfl, hb⟩; replace HO_3 := Aside0.mk (Kd.R_below (by (with_reducible repeat first | apply Kd.R_alloc | apply Kd.R_drewN | apply Kd.R_drew); exact HO_3.out) hb); replace BK725 := Aside0.mk (blk_below (g := gb725) (o := .cells #[.string ((rd_T28 l0 x9_1).f0), .string ((rd_T28 l0 x9_1).f1), .slice A724_2 ((rd_T28 l0 x9_1).f2).length c724_2, .slice A724_3 ((rd_T28 l0 x9_1).f3).length c724_3] 28 (0, 0)) (by (with_reducible repeat first | apply blk_drewN | apply blk_drew | apply blk_alloc); exact BK725.out) hb); replace HB := Aside0.mk (below_step (by repeat first | (with_reducible first | exact HB.out | apply below_alloc | apply pw_below_drewN | apply below_drew1 | refine below_set ?_ GE725.out) | exact HB.out) hb); (try clear hb); obtain ⟨Ao17, co17, eo17⟩ := Kd.R_slice HO_3.out; subst eo17) | (go_at_call 64; (with_reducible refine (slices_Contains_string_string.calls k1 _ _ x3_1 t727 true _ ?side1 ?side2 A10.out).mono ?_); (case side1 => repeat (first | exact (Kd.R_reads' HO_3.out).2.2 | with_reducible first | apply Kd.C_alloc | apply Kd.C_drewN | apply Kd.C_drew)); (case side2 => exact (Kd.R_reads' HO_3.out).2.1); rintro e w' ⟨rfl, ⟨nd, rfl⟩⟩))
        go_ret
        exact ⟨by first | rfl | (simp [errW_none, errW_some] <;> rfl) | (simp [*, errW_none, errW_some] <;> rfl), by repeat (first | (with_reducible first | exact HB.out | apply below_alloc | apply pw_below_drewN | apply below_drew1 | refine below_set ?_ GE725.out) | exact HB.out)⟩
       ·replace c11 := Bool.eq_false_iff.mpr c11
        subst c11
        have H1 : ((impl_idOf.f ((rd_T28 l0 x9_1).f0) ((rd_T28 l0 x9_1).f1) ((rd_T28 l0 x9_1).f2) ((rd_T28 l0 x9_1).f3)).bind fun t729 => (if x3_1.length < 8796093022208 then (impl_ValidTests.l0 k1 l0 (x3_1 ++ [t729]) l0 (l0.length : Int) (wrap64 (x9_1 + 1))) else (none))) = some r := by rw [if_neg (show ¬ (false = true) by decide)] at H; exact H
        clear H; have H := H1; clear H1
        replace H := Option.bind_eq_some_iff.mp H
        obtain ⟨t729, A180, H⟩ := H
        replace H : (if x3_1.length < 8796093022208 then (impl_ValidTests.l0 k1 l0 (x3_1 ++ [t729]) l0 (l0.length : Int) (wrap64 (x9_1 + 1))) else (none)) = some r := H
        have A18 := Aside0.mk A180; clear A180
        by_cases c19 : x3_1.length < 8796093022208
        ·rw [if_pos c19] at H
         have LMc19 := Aside0.mk c19; clear c19
         obtain ⟨y730, hy730⟩ : ∃ y_ : List ByteArray, y_ = (x3_1 ++ [t729]) := ⟨_, rfl⟩
         replace H : (impl_ValidTests.l0 k1 l0 y730 l0 (l0.length : Int) (wrap64 (x9_1 + 1))) = some r := by first | (rw [hy730]; with_reducible exact H) | (have H2_ := (Option.bind_some _ _).symm.trans H; rw [hy730]; with_reducible exact H2_) | (have H2_ := (Option.bind_some _ _).symm.trans H; with_reducible exact H2_) | with_reducible exact H | (rw [hy730]; exact H) | exact H
         have Ny730 := Aside0.mk hy730; clear hy730; have H' := Aside0.mk H; clear H
         have p724 : 0 ≤ (x9_1 : Int) := of_decide_eq_true (by first | (with_reducible assumption) | assumption)
         have q724 : x9_1 < (l0.length : Int) := of_decide_eq_true (by first | (with_reducible assumption) | assumption)
         obtain ⟨ad724, A724_2, c724_2, A724_3, c724_3, e724, hx724_0, hx724_1, hx724_2, hx724_3, hl724_2, hi724_2, hl724_3, hi724_3⟩ := at_T28 HR0.out x9_1 p724 q724
         cases e724
         replace hx724_0 := cup_ HB.out hx724_0; replace hx724_1 := cup_ HB.out hx724_1; replace hx724_2 := cup_ HB.out hx724_2; replace hx724_3 := cup_ HB.out hx724_3
         have HR724_2 := Aside0.mk hi724_2; have HC724_2 := Aside0.mk hl724_2; clear hi724_2 hl724_2; have HR724_3 := Aside0.mk hi724_3; have HC724_3 := Aside0.mk hl724_3; clear hi724_3 hl724_3
         replace p724 := eq_true p724
         replace q724 := eq_true q724
         go_wp2_with (first | ((with_reducible refine gate_dst (N := 5) rfl ?_); refine box_event ?hg (N := 5) ?hd (cs := #[.string (⟨#[]⟩ : ByteArray), .string (⟨#[]⟩ : ByteArray), .slice none 0 0, .slice none 0 0]) (t := 28) ?hr ?_; (case hd => rfl); (case hg => rfl); (case hr => first | (go_simp; done) | (go_simp; rfl)); intro gb725 hg w20 hbox hb; replace HO_3 := Aside0.mk (Kd.R_below (by (with_reducible repeat first | apply Kd.R_alloc | apply Kd.R_drewN | apply Kd.R_drew); exact HO_3.out) hb); have BK725 := Aside0.mk (hbox); have GW725 := Aside0.mk ((by rw [hg]; exact (below_size (by repeat first | (with_reducible first | exact HB.out | apply below_alloc | apply pw_below_drewN | apply below_drew1) | exact HB.out)) : w.heap.size ≤ gb725)); have GE725 := Aside0.mk ((by rw [hg]; exact (below_size (by repeat first | (with_reducible first | exact HB.out | apply below_alloc | apply pw_below_drewN | apply below_drew1) | exact HB.out)) : w.heap.size ≤ gb725)); replace HB := Aside0.mk (below_step (by repeat first | (with_reducible first | exact HB.out | apply below_alloc | apply pw_below_drewN | apply below_drew1) | exact HB.out) hb); clear hb hbox hg; have hcz21_0 : w20.cell? ⟨gb725, 0, none⟩ = some (.string (⟨#[]⟩ : ByteArray)) := (blk_cell BK725.out 0).trans rfl; have hcz21_1 : w20.cell? ⟨gb725, 1, none⟩ = some (.string (⟨#[]⟩ : ByteArray)) := (blk_cell BK725.out 1).trans rfl; have hcz21_2 : w20.cell? ⟨gb725, 2, none⟩ = some (.slice none 0 0) := (blk_cell BK725.out 2).trans rfl; have hcz21_3 : w20.cell? ⟨gb725, 3, none⟩ = some (.slice none 0 0) := (blk_cell BK725.out 3).trans rfl; have hfz21_0 := blk_frozen BK725.out 0; have hfz21_1 := blk_frozen BK725.out 1; have hfz21_2 := blk_frozen BK725.out 2; have hfz21_3 := blk_frozen BK725.out 3) | ((with_reducible refine gate_callee (f := 52) rfl ?_); refine goesL_ (some 14) rfl rfl Try.func52 (by kernel_rfl) rfl #[.agg #[.string ((rd_T28 l0 x9_1).f0), .string ((rd_T28 l0 x9_1).f1), .slice A724_2 ((rd_T28 l0 x9_1).f2).length c724_2, .slice A724_3 ((rd_T28 l0 x9_1).f3).length c724_3]] rfl (by (try simp only [List.map_toArray, List.map_cons, List.map_nil]); first | done | rfl) ?_; (with_reducible refine (impl_testOk.calls k1 ((rd_T28 l0 x9_1).f0) ((rd_T28 l0 x9_1).f1) _ _ ((rd_T28 l0 x9_1).f2) _ _ ((rd_T28 l0 x9_1).f3) true _ ?side1 ?side2 ?side3 ?side4 A7.out).mono ?_); (case side1 => exact Kd.C_below HR724_2.out (by repeat first | (with_reducible first | exact HB.out | apply below_alloc | apply pw_below_drewN | apply below_drew1 | refine below_set ?_ GE725.out) | exact HB.out)); (case side2 => exact HC724_2.out); (case side3 => exact Kd.C_below HR724_3.out (by repeat first | (with_reducible first | exact HB.out | apply below_alloc | apply pw_below_drewN | apply below_drew1 | refine below_set ?_ GE725.out) | exact HB.out)); (case side4 => exact HC724_3.out); rintro e w22 ⟨rfl, hb⟩; refine ⟨_, rfl, ?_⟩; replace HO_3 := Aside0.mk (Kd.R_below (by (with_reducible repeat first | apply Kd.R_alloc | apply Kd.R_drewN | apply Kd.R_drew); exact (Kd.R_mono (Kd.R_far (p := ⟨gb725, 3, none⟩) (Kd.R_far (p := ⟨gb725, 2, none⟩) (Kd.R_far (p := ⟨gb725, 1, none⟩) (Kd.R_far (p := ⟨gb725, 0, none⟩) (Kd.R_types HO_3.out BK725.out (by decide)) (fun _ hk => hk.2) (.string ((rd_T28 l0 x9_1).f0))) (fun _ hk => hk.2) (.string ((rd_T28 l0 x9_1).f1))) (fun _ hk => hk.2) (.slice A724_2 ((rd_T28 l0 x9_1).f2).length c724_2)) (fun _ hk => hk.2) (.slice A724_3 ((rd_T28 l0 x9_1).f3).length c724_3)) (fun _ h_ => h_.1))) hb); replace BK725 := Aside0.mk (blk_below (g := gb725) (o := .cells #[.string ((rd_T28 l0 x9_1).f0), .string ((rd_T28 l0 x9_1).f1), .slice A724_2 ((rd_T28 l0 x9_1).f2).length c724_2, .slice A724_3 ((rd_T28 l0 x9_1).f3).length c724_3] 28 (0, 0)) (by (with_reducible repeat first | apply blk_drewN | apply blk_drew | apply blk_alloc); refine blk_put (cs := #[.string ((rd_T28 l0 x9_1).f0), .string ((rd_T28 l0 x9_1).f1), .slice A724_2 ((rd_T28 l0 x9_1).f2).length c724_2, .slice none 0 0]) ?_ 3 _ rfl; (with_reducible repeat first | apply blk_drewN | apply blk_drew | apply blk_alloc); refine blk_put (cs := #[.string ((rd_T28 l0 x9_1).f0), .string ((rd_T28 l0 x9_1).f1), .slice none 0 0, .slice none 0 0]) ?_ 2 _ rfl; (with_reducible repeat first | apply blk_drewN | apply blk_drew | apply blk_alloc); refine blk_put (cs := #[.string ((rd_T28 l0 x9_1).f0), .string (⟨#[]⟩ : ByteArray), .slice none 0 0, .slice none 0 0]) ?_ 1 _ rfl; (with_reducible repeat first | apply blk_drewN | apply blk_drew | apply blk_alloc); refine blk_put (cs := #[.string (⟨#[]⟩ : ByteArray), .string (⟨#[]⟩ : ByteArray), .slice none 0 0, .slice none 0 0]) ?_ 0 _ rfl; (with_reducible repeat first | apply blk_drewN | apply blk_drew | apply blk_alloc); exact BK725.out) hb); replace HB := Aside0.mk (below_step (by repeat first | (with_reducible first | exact HB.out | apply below_alloc | apply pw_below_drewN | apply below_drew1 | refine below_set ?_ GE725.out) | exact HB.out) hb); (try clear hb); have hcz23_0 : w22.cell? ⟨gb725, 0, none⟩ = some (.string ((rd_T28 l0 x9_1).f0)) := (blk_cell BK725.out 0).trans rfl; have hcz23_1 : w22.cell? ⟨gb725, 1, none⟩ = some (.string ((rd_T28 l0 x9_1).f1)) := (blk_cell BK725.out 1).trans rfl; have hcz23_2 : w22.cell? ⟨gb725, 2, none⟩ = some (.slice A724_2 ((rd_T28 l0 x9_1).f2).length c724_2) := (blk_cell BK725.out 2).trans rfl; have hcz23_3 : w22.cell? ⟨gb725, 3, none⟩ = some (.slice A724_3 ((rd_T28 l0 x9_1).f3).length c724_3) := (blk_cell BK725.out 3).trans rfl; have hfz23_0 := blk_frozen BK725.out 0; have hfz23_1 := blk_frozen BK725.out 1; have hfz23_2 := blk_frozen BK725.out 2; have hfz23_3 := blk_frozen BK725.out 3) | (go_at_call 65; (with_reducible refine (impl_idOf.calls ((rd_T28 l0 x9_1).f0) ((rd_T28 l0 x9_1).f1) _ _ ((rd_T28 l0 x9_1).f2) _ _ ((rd_T28 l0 x9_1).f3) t727 _ ?side1 ?side2 ?side3 ?side4 A9.out).mono ?_); (case side1 => repeat (first | exact (Kd.C_below HR724_2.out HB.out) | with_reducible first | apply Kd.C_alloc | apply Kd.C_drewN | apply Kd.C_drew)); (case side2 => exact HC724_2.out); (case side3 => repeat (first | exact (Kd.C_below HR724_3.out HB.out) | with_reducible first | apply Kd.C_alloc | apply Kd.C_drewN | apply Kd.C_drew)); (case side4 => exact HC724_3.out); rintro e w24 ⟨rfl, hb⟩; replace HO_3 := Aside0.mk (Kd.R_below (by (with_reducible repeat first | apply Kd.R_alloc | apply Kd.R_drewN | apply Kd.R_drew); exact HO_3.out) hb); replace BK725 := Aside0.mk (blk_below (g := gb725) (o := .cells #[.string ((rd_T28 l0 x9_1).f0), .string ((rd_T28 l0 x9_1).f1), .slice A724_2 ((rd_T28 l0 x9_1).f2).length c724_2, .slice A724_3 ((rd_T28 l0 x9_1).f3).length c724_3] 28 (0, 0)) (by (with_reducible repeat first | apply blk_drewN | apply blk_drew | apply blk_alloc); exact BK725.out) hb); replace HB := Aside0.mk (below_step (by repeat first | (with_reducible first | exact HB.out | apply below_alloc | apply pw_below_drewN | apply below_drew1 | refine below_set ?_ GE725.out) | exact HB.out) hb); (try clear hb); obtain ⟨Ao25, co25, eo25⟩ := Kd.R_slice HO_3.out; subst eo25) | (go_at_call 64; (with_reducible refine (slices_Contains_string_string.calls k1 _ _ x3_1 t727 false _ ?side1 ?side2 A10.out).mono ?_); (case side1 => repeat (first | exact (Kd.R_reads' HO_3.out).2.2 | with_reducible first | apply Kd.C_alloc | apply Kd.C_drewN | apply Kd.C_drew)); (case side2 => exact (Kd.R_reads' HO_3.out).2.1); rintro e w' ⟨rfl, ⟨nd, rfl⟩⟩; have hcz26_0 : w24.cell? ⟨gb725, 0, none⟩ = some (.string ((rd_T28 l0 x9_1).f0)) := (blk_cell BK725.out 0).trans rfl; have hcz26_1 : w24.cell? ⟨gb725, 1, none⟩ = some (.string ((rd_T28 l0 x9_1).f1)) := (blk_cell BK725.out 1).trans rfl; have hcz26_2 : w24.cell? ⟨gb725, 2, none⟩ = some (.slice A724_2 ((rd_T28 l0 x9_1).f2).length c724_2) := (blk_cell BK725.out 2).trans rfl; have hcz26_3 : w24.cell? ⟨gb725, 3, none⟩ = some (.slice A724_3 ((rd_T28 l0 x9_1).f3).length c724_3) := (blk_cell BK725.out 3).trans rfl; have hfz26_0 := blk_frozen BK725.out 0; have hfz26_1 := blk_frozen BK725.out 1; have hfz26_2 := blk_frozen BK725.out 2; have hfz26_3 := blk_frozen BK725.out 3) | ((with_reducible refine gate_callee (f := 65) rfl ?_); refine goesL_ (some 24) rfl rfl Try.func65 (by kernel_rfl) rfl #[.agg #[.string ((rd_T28 l0 x9_1).f0), .string ((rd_T28 l0 x9_1).f1), .slice A724_2 ((rd_T28 l0 x9_1).f2).length c724_2, .slice A724_3 ((rd_T28 l0 x9_1).f3).length c724_3]] rfl (by (try simp only [List.map_toArray, List.map_cons, List.map_nil]); first | done | rfl) ?_; (with_reducible refine (impl_idOf.calls ((rd_T28 l0 x9_1).f0) ((rd_T28 l0 x9_1).f1) _ _ ((rd_T28 l0 x9_1).f2) _ _ ((rd_T28 l0 x9_1).f3) t729 _ ?side1 ?side2 ?side3 ?side4 A18.out).mono ?_); (case side1 => repeat (first | exact (Kd.C_below HR724_2.out (by repeat first | (with_reducible first | exact HB.out | apply below_alloc | apply pw_below_drewN | apply below_drew1 | refine below_set ?_ GE725.out) | exact HB.out)) | with_reducible first | apply Kd.C_alloc | apply Kd.C_drewN | apply Kd.C_drew)); (case side2 => exact HC724_2.out); (case side3 => repeat (first | exact (Kd.C_below HR724_3.out (by repeat first | (with_reducible first | exact HB.out | apply below_alloc | apply pw_below_drewN | apply below_drew1 | refine below_set ?_ GE725.out) | exact HB.out)) | with_reducible first | apply Kd.C_alloc | apply Kd.C_drewN | apply Kd.C_drew)); (case side4 => exact HC724_3.out); rintro e w27 ⟨rfl, hb⟩; refine ⟨_, rfl, ?_⟩; replace HO_3 := Aside0.mk (Kd.R_below (by (with_reducible repeat first | apply Kd.R_alloc | apply Kd.R_drewN | apply Kd.R_drew); exact HO_3.out) hb); replace BK725 := Aside0.mk (blk_below (g := gb725) (o := .cells #[.string ((rd_T28 l0 x9_1).f0), .string ((rd_T28 l0 x9_1).f1), .slice A724_2 ((rd_T28 l0 x9_1).f2).length c724_2, .slice A724_3 ((rd_T28 l0 x9_1).f3).length c724_3] 28 (0, 0)) (by (with_reducible repeat first | apply blk_drewN | apply blk_drew | apply blk_alloc); exact BK725.out) hb); replace HB := Aside0.mk (below_step (by repeat first | (with_reducible first | exact HB.out | apply below_alloc | apply pw_below_drewN | apply below_drew1 | refine below_set ?_ GE725.out) | exact HB.out) hb); (try clear hb)) | ((with_reducible refine gate_builtin (b := .append) (xs := #[.tmp 22, .tmp 25]) rfl ?_); at_builtin; refine Kd.R_append Kd.string (w0 := w) w.heap.size rfl (.tmp 22) (.tmp 25) 23 9 (.string ⟨#[]⟩) 16 rfl Try.underlying23 info9 rfl (by decide) (by omega) (.slice Ao25 x3_1.length co25) x3_1 t729 [.string t729] (fun _ => True) (fun _ => False) rfl rfl ?aP (fun _ hk => hk.elim) ?aF ?aO ?aB ?aS ?aL ?_; (case aP => exact rfl); (case aB => exact (by repeat first | (with_reducible first | exact HB.out | apply below_alloc | apply pw_below_drewN | apply below_drew1 | refine below_set ?_ GE725.out) | exact HB.out)); (case aF => exact (fun _ _ => trivial)); (case aO => exact (by (with_reducible repeat first | apply Kd.R_alloc | apply Kd.R_drewN | apply Kd.R_drew); exact HO_3.out)); (case aS => exact (below_size (by repeat first | (with_reducible first | exact HB.out | apply below_alloc | apply pw_below_drewN | apply below_drew1 | refine below_set ?_ GE725.out) | exact HB.out))); (case aL => have := LMc19.out; omega); intro v731 w28 ho hb hg hat; rw [← Ny730.out] at ho; replace BK725 := Aside0.mk (blk_grown (g := gb725) (o := .cells #[.string ((rd_T28 l0 x9_1).f0), .string ((rd_T28 l0 x9_1).f1), .slice A724_2 ((rd_T28 l0 x9_1).f2).length c724_2, .slice A724_3 ((rd_T28 l0 x9_1).f3).length c724_3] 28 (0, 0)) (by (with_reducible repeat first | apply blk_drewN | apply blk_drew | apply blk_alloc); exact BK725.out) hg (Kd.R_ne HO_3.out BK725.out (by decide))); replace HB := Aside0.mk (hb); have HO732 := Aside0.mk (ho); clear HO_3; clear ho hb hg hat))
         go_roundg k1
         case measure => have := HK1.out; omega
         case rel => exact ⟨(y730), (wrap64 (x9_1 + 1)), (by first | rfl | (simp; done) | (simp [*]; done)), H', ⟨by have := HK1.out; omega⟩, ⟨by (with_reducible repeat first | apply Kd.R_alloc | apply Kd.R_drewN | apply Kd.R_drew); exact HO732.out⟩, ⟨by repeat (first | (with_reducible first | exact HB.out | apply below_alloc | apply pw_below_drewN | apply below_drew1 | refine below_set ?_ GE725.out) | exact HB.out)⟩⟩
        ·rw [if_neg c19] at H
         exact absurd H (by simp)
      ·replace c8 := Bool.eq_false_iff.mpr c8
       subst c8
       have H1 : (some false) = some r := by rw [if_neg (show ¬ (false = true) by decide)] at H; exact H
       clear H; have H := H1; clear H1
       obtain rfl := Option.some.inj H
       have p724 : 0 ≤ (x9_1 : Int) := of_decide_eq_true (by first | (with_reducible assumption) | assumption)
       have q724 : x9_1 < (l0.length : Int) := of_decide_eq_true (by first | (with_reducible assumption) | assumption)
       obtain ⟨ad724, A724_2, c724_2, A724_3, c724_3, e724, hx724_0, hx724_1, hx724_2, hx724_3, hl724_2, hi724_2, hl724_3, hi724_3⟩ := at_T28 HR0.out x9_1 p724 q724
       cases e724
       replace hx724_0 := cup_ HB.out hx724_0; replace hx724_1 := cup_ HB.out hx724_1; replace hx724_2 := cup_ HB.out hx724_2; replace hx724_3 := cup_ HB.out hx724_3
       have HR724_2 := Aside0.mk hi724_2; have HC724_2 := Aside0.mk hl724_2; clear hi724_2 hl724_2; have HR724_3 := Aside0.mk hi724_3; have HC724_3 := Aside0.mk hl724_3; clear hi724_3 hl724_3
       replace p724 := eq_true p724
       replace q724 := eq_true q724
       go_wp2_with (first | ((with_reducible refine gate_dst (N := 5) rfl ?_); refine box_event ?hg (N := 5) ?hd (cs := #[.string (⟨#[]⟩ : ByteArray), .string (⟨#[]⟩ : ByteArray), .slice none 0 0, .slice none 0 0]) (t := 28) ?hr ?_; (case hd => rfl); (case hg => rfl); (case hr => first | (go_simp; done) | (go_simp; rfl)); intro gb725 hg w29 hbox hb; replace HO_3 := Aside0.mk (Kd.R_below (by (with_reducible repeat first | apply Kd.R_alloc | apply Kd.R_drewN | apply Kd.R_drew); exact HO_3.out) hb); have BK725 := Aside0.mk (hbox); have GW725 := Aside0.mk ((by rw [hg]; exact (below_size (by repeat first | (with_reducible first | exact HB.out | apply below_alloc | apply pw_below_drewN | apply below_drew1) | exact HB.out)) : w.heap.size ≤ gb725)); have GE725 := Aside0.mk ((by rw [hg]; exact (below_size (by repeat first | (with_reducible first | exact HB.out | apply below_alloc | apply pw_below_drewN | apply below_drew1) | exact HB.out)) : w.heap.size ≤ gb725)); replace HB := Aside0.mk (below_step (by repeat first | (with_reducible first | exact HB.out | apply below_alloc | apply pw_below_drewN | apply below_drew1) | exact HB.out) hb); clear hb hbox hg; have hcz30_0 : w29.cell? ⟨gb725, 0, none⟩ = some (.string (⟨#[]⟩ : ByteArray)) := (blk_cell BK725.out 0).trans rfl; have hcz30_1 : w29.cell? ⟨gb725, 1, none⟩ = some (.string (⟨#[]⟩ : ByteArray)) := (blk_cell BK725.out 1).trans rfl; have hcz30_2 : w29.cell? ⟨gb725, 2, none⟩ = some (.slice none 0 0) := (blk_cell BK725.out 2).trans rfl; have hcz30_3 : w29.cell? ⟨gb725, 3, none⟩ = some (.slice none 0 0) := (blk_cell BK725.out 3).trans rfl; have hfz30_0 := blk_frozen BK725.out 0; have hfz30_1 := blk_frozen BK725.out 1; have hfz30_2 := blk_frozen BK725.out 2; have hfz30_3 := blk_frozen BK725.out 3) | ((with_reducible refine gate_callee (f := 52) rfl ?_); refine goesL_ (some 14) rfl rfl Try.func52 (by kernel_rfl) rfl #[.agg #[.string ((rd_T28 l0 x9_1).f0), .string ((rd_T28 l0 x9_1).f1), .slice A724_2 ((rd_T28 l0 x9_1).f2).length c724_2, .slice A724_3 ((rd_T28 l0 x9_1).f3).length c724_3]] rfl (by (try simp only [List.map_toArray, List.map_cons, List.map_nil]); first | done | rfl) ?_; (with_reducible refine (impl_testOk.calls k1 ((rd_T28 l0 x9_1).f0) ((rd_T28 l0 x9_1).f1) _ _ ((rd_T28 l0 x9_1).f2) _ _ ((rd_T28 l0 x9_1).f3) false _ ?side1 ?side2 ?side3 ?side4 A7.out).mono ?_); (case side1 => exact Kd.C_below HR724_2.out (by repeat first | (with_reducible first | exact HB.out | apply below_alloc | apply pw_below_drewN | apply below_drew1 | refine below_set ?_ GE725.out) | exact HB.out)); (case side2 => exact HC724_2.out); (case side3 => exact Kd.C_below HR724_3.out (by repeat first | (with_reducible first | exact HB.out | apply below_alloc | apply pw_below_drewN | apply below_drew1 | refine below_set ?_ GE725.out) | exact HB.out)); (case side4 => exact HC724_3.out); rintro e w31 ⟨rfl, hb⟩; refine ⟨_, rfl, ?_⟩; replace HO_3 := Aside0.mk (Kd.R_below (by (with_reducible repeat first | apply Kd.R_alloc | apply Kd.R_drewN | apply Kd.R_drew); exact (Kd.R_mono (Kd.R_far (p := ⟨gb725, 3, none⟩) (Kd.R_far (p := ⟨gb725, 2, none⟩) (Kd.R_far (p := ⟨gb725, 1, none⟩) (Kd.R_far (p := ⟨gb725, 0, none⟩) (Kd.R_types HO_3.out BK725.out (by decide)) (fun _ hk => hk.2) (.string ((rd_T28 l0 x9_1).f0))) (fun _ hk => hk.2) (.string ((rd_T28 l0 x9_1).f1))) (fun _ hk => hk.2) (.slice A724_2 ((rd_T28 l0 x9_1).f2).length c724_2)) (fun _ hk => hk.2) (.slice A724_3 ((rd_T28 l0 x9_1).f3).length c724_3)) (fun _ h_ => h_.1))) hb); replace BK725 := Aside0.mk (blk_below (g := gb725) (o := .cells #[.string ((rd_T28 l0 x9_1).f0), .string ((rd_T28 l0 x9_1).f1), .slice A724_2 ((rd_T28 l0 x9_1).f2).length c724_2, .slice A724_3 ((rd_T28 l0 x9_1).f3).length c724_3] 28 (0, 0)) (by (with_reducible repeat first | apply blk_drewN | apply blk_drew | apply blk_alloc); refine blk_put (cs := #[.string ((rd_T28 l0 x9_1).f0), .string ((rd_T28 l0 x9_1).f1), .slice A724_2 ((rd_T28 l0 x9_1).f2).length c724_2, .slice none 0 0]) ?_ 3 _ rfl; (with_reducible repeat first | apply blk_drewN | apply blk_drew | apply blk_alloc); refine blk_put (cs := #[.string ((rd_T28 l0 x9_1).f0), .string ((rd_T28 l0 x9_1).f1), .slice none 0 0, .slice none 0 0]) ?_ 2 _ rfl; (with_reducible repeat first | apply blk_drewN | apply blk_drew | apply blk_alloc); refine blk_put (cs := #[.string ((rd_T28 l0 x9_1).f0), .string (⟨#[]⟩ : ByteArray), .slice none 0 0, .slice none 0 0]) ?_ 1 _ rfl; (with_reducible repeat first | apply blk_drewN | apply blk_drew | apply blk_alloc); refine blk_put (cs := #[.string (⟨#[]⟩ : ByteArray), .string (⟨#[]⟩ : ByteArray), .slice none 0 0, .slice none 0 0]) ?_ 0 _ rfl; (with_reducible repeat first | apply blk_drewN | apply blk_drew | apply blk_alloc); exact BK725.out) hb); replace HB := Aside0.mk (below_step (by repeat first | (with_reducible first | exact HB.out | apply below_alloc | apply pw_below_drewN | apply below_drew1 | refine below_set ?_ GE725.out) | exact HB.out) hb); (try clear hb)))
       go_ret
       exact ⟨by first | rfl | (simp [errW_none, errW_some] <;> rfl) | (simp [*, errW_none, errW_some] <;> rfl), by repeat (first | (with_reducible first | exact HB.out | apply below_alloc | apply pw_below_drewN | apply below_drew1 | refine below_set ?_ GE725.out) | exact HB.out)⟩
     ·rw [if_neg c6] at H
      exact absurd H (by simp)
    ·rw [if_neg c5] at H
     exact absurd H (by simp)
   ·rw [if_neg c4] at H
    have c4b0 : decide (x9_1 < (l0.length : Int)) = false := decide_eq_false c4
    clear c4
    obtain rfl := Option.some.inj H
    go_wp2
    go_ret
    exact ⟨by first | rfl | (simp [errW_none, errW_some] <;> rfl) | (simp [*, errW_none, errW_some] <;> rfl), by repeat (first | (with_reducible first | exact HB.out | apply below_alloc | apply pw_below_drewN | apply below_drew1) | exact HB.out)⟩

/-! ### impl_modulesOf: function 61 -/
def impl_modulesOf.l0 : Nat → List ByteArray → List (S28) → Int → Int → Option (List ByteArray)
 | 0, _, _, _, _ => none
 | k + 1, x3, x7, x8, x9 => if x9 < x8 then (if 0 ≤ x9 then (if x9 < (x7.length : Int) then ((slices_Contains_string_string.f k x3 ((rd_T28 x7 x9).f0)).bind fun t738 => (if t738 = true then (impl_modulesOf.l0 k x3 x7 x8 (wrap64 (x9 + 1))) else (if x3.length < 8796093022208 then (impl_modulesOf.l0 k (x3 ++ [(rd_T28 x7 x9).f0]) x7 x8 (wrap64 (x9 + 1))) else (none)))) else (none)) else (none)) else (some x3)
def impl_modulesOf.f (k : Nat) (l0 : List (S28)) : Option (List ByteArray) := impl_modulesOf.l0 k (([] : List ByteArray)) l0 (l0.length : Int) 0
theorem impl_modulesOf.mono_l : ∀ k, (∀ y0 y1 y2 y3, LeO (impl_modulesOf.l0 k y0 y1 y2 y3) (impl_modulesOf.l0 (k + 1) y0 y1 y2 y3))
 | 0 => fun _ _ _ _ r h => by simp [impl_modulesOf.l0] at h
 | k + 1 => by
  have ih0 := impl_modulesOf.mono_l k
  ·intro y0 y1 y2 y3
   unfold impl_modulesOf.l0
   repeat' first
   | (with_reducible exact ih0 _ _ _ _)
   | (with_reducible exact slices_Contains_string_string.mono _ _ _)
   | (with_reducible exact LeO.refl _)
   | (with_reducible exact LeO.none _)
   | (with_reducible refine LeO.ite ?_ ?_)
   | (with_reducible refine LeO.bind ?_ (fun _ => ?_))
   | refine LeO.ite ?_ ?_
   | refine LeO.bind ?_ (fun _ => ?_)
theorem impl_modulesOf.mono : ∀ a0 k, LeO (impl_modulesOf.f k a0) (impl_modulesOf.f (k + 1) a0) := by
 intro a0 k
 have ih0 := impl_modulesOf.mono_l k
 unfold impl_modulesOf.f
 repeat' first
   | (with_reducible exact ih0 _ _ _ _)
   | (with_reducible exact slices_Contains_string_string.mono _ _ _)
   | (with_reducible exact LeO.refl _)
   | (with_reducible exact LeO.none _)
   | (with_reducible refine LeO.ite ?_ ?_)
   | (with_reducible refine LeO.bind ?_ (fun _ => ?_))
   | refine LeO.ite ?_ ?_
   | refine LeO.bind ?_ (fun _ => ?_)
set_option maxHeartbeats 8000000 in
set_option maxRecDepth 100000 in
theorem impl_modulesOf.calls (k : Nat) (A0 : Option Addr) (c0 : Nat) (l0 : List (S28)) (r : List ByteArray) (w : World) (hr0 : Kd.C k28 w A0 l0.length l0) (hc0 : l0.length ≤ c0) (h : impl_modulesOf.f k l0 = some r) :
  Calls Try.prog 61 #[.slice A0 l0.length c0] w fun e w' => ∃ v0_ : Value, e = .returned (v0_) ∧ Kd.R Kd.string 9 w' w.heap.size (fun _ => True) v0_ r ∧ Below w.heap.size w w' := by
 have hu28 := Try.underlying28; have HR0 := Aside0.mk hr0; have HC0 := Aside0.mk hc0; clear hr0 hc0; have HB := Aside0.mk (Below.refl w.heap.size w)
 have H : (impl_modulesOf.l0 k (([] : List ByteArray)) l0 (l0.length : Int) 0) = some r := h
 clear h
 obtain ⟨y733, hy733⟩ : ∃ y_ : List ByteArray, y_ = (([] : List ByteArray)) := ⟨_, rfl⟩
 replace H : (impl_modulesOf.l0 k y733 l0 (l0.length : Int) 0) = some r := by first | (rw [hy733]; with_reducible exact H) | (have H2_ := (Option.bind_some _ _).symm.trans H; rw [hy733]; with_reducible exact H2_) | (have H2_ := (Option.bind_some _ _).symm.trans H; with_reducible exact H2_) | with_reducible exact H | (rw [hy733]; exact H) | exact H
 have Ny733 := Aside0.mk hy733; clear hy733; have H' := Aside0.mk H; clear H
 go_enter Try.func61, Try.ntmps61
 go_wp2_with (first | ((with_reducible refine gate_dst (N := 6) rfl ?_); refine Kd.R_lit Kd.string _ 9 ?hg (N := 6) ?hd (xs := ([] : List ByteArray)) (inner := []) (ok := fun _ => True) (okp := fun _ => True) ?hr ?hp (fun _ hk => hk) trivial (Below.refl _ _) (Nat.le_refl _) (by simp) ?_; (case hd => rfl); (case hg => rfl); (case hr => first | (go_simp; done) | (go_simp; rfl)); (case hp => exact (Reps.none _ _)); intro v734 w2 ho3 hb hg_ hnew_; clear hg_ hnew_; (first | rw [← Ny733.out] at ho3 | (simp only [Int.reduceToNat] at ho3; rw [← Ny733.out] at ho3)); have HO735 := Aside0.mk (Kd.R_lower ho3 (below_size (by repeat first | (with_reducible first | exact HB.out | apply below_alloc | apply pw_below_drewN | apply below_drew1) | exact HB.out))); replace HB := Aside0.mk (below_step (by repeat first | (with_reducible first | exact HB.out | apply below_alloc | apply pw_below_drewN | apply below_drew1) | exact HB.out) hb); clear hb ho3))
 go_loopg [3, 9] k (fun kq v3 v9 w' => ∃ (x3_1 : List ByteArray) (x9_1 : Int), v9 = .int .i64 x9_1 ∧ Aside0 (impl_modulesOf.l0 kq x3_1 l0 (l0.length : Int) x9_1 = some r) ∧ Aside0 (kq ≤ k) ∧ Aside0 (Kd.R Kd.string 9 w' w.heap.size (fun _ => True) v3 x3_1) ∧ Aside0 (Below w.heap.size w w'))
 case atStart => exact ⟨(y733), (0), (by first | rfl | (simp; done) | (simp [*]; done)), H', ⟨Nat.le_refl _⟩, ⟨by (with_reducible repeat first | apply Kd.R_alloc | apply Kd.R_drewN | apply Kd.R_drew); exact HO735.out⟩, ⟨by repeat (first | (with_reducible first | exact HB.out | apply below_alloc | apply pw_below_drewN | apply below_drew1) | exact HB.out)⟩⟩
 case round =>
  clear H'; try clear p2
  obtain ⟨x3_1, x9_1, rfl, HA, HK1, HO_3, HB⟩ := hrel
  cases gk with
  | zero => exact absurd HA.out (by simp [impl_modulesOf.l0])
  | succ k1 =>
   have H := HA.out; clear HA
   simp only [impl_modulesOf.l0] at H
   by_cases c4 : x9_1 < (l0.length : Int)
   ·rw [if_pos c4] at H
    have c4b0 : decide (x9_1 < (l0.length : Int)) = true := decide_eq_true c4
    clear c4
    by_cases c5 : 0 ≤ x9_1
    ·rw [if_pos c5] at H
     have c5b0 : decide (0 ≤ x9_1) = true := decide_eq_true c5
     clear c5
     by_cases c6 : x9_1 < (l0.length : Int)
     ·rw [if_pos c6] at H
      have c6b0 : decide (x9_1 < (l0.length : Int)) = true := decide_eq_true c6
      clear c6
      replace H := Option.bind_eq_some_iff.mp H
      obtain ⟨t738, A70, H⟩ := H
      replace H : (if t738 = true then (impl_modulesOf.l0 k1 x3_1 l0 (l0.length : Int) (wrap64 (x9_1 + 1))) else (if x3_1.length < 8796093022208 then (impl_modulesOf.l0 k1 (x3_1 ++ [(rd_T28 l0 x9_1).f0]) l0 (l0.length : Int) (wrap64 (x9_1 + 1))) else (none))) = some r := H
      have A7 := Aside0.mk A70; clear A70
      by_cases c8 : t738 = true
      ·subst c8
       have H1 : (impl_modulesOf.l0 k1 x3_1 l0 (l0.length : Int) (wrap64 (x9_1 + 1))) = some r := by rw [if_pos rfl] at H; exact H
       clear H; have H := H1; clear H1; have H' := Aside0.mk H; clear H
       have p736 : 0 ≤ (x9_1 : Int) := of_decide_eq_true (by first | (with_reducible assumption) | assumption)
       have q736 : x9_1 < (l0.length : Int) := of_decide_eq_true (by first | (with_reducible assumption) | assumption)
       obtain ⟨ad736, A736_2, c736_2, A736_3, c736_3, e736, hx736_0, hx736_1, hx736_2, hx736_3, hl736_2, hi736_2, hl736_3, hi736_3⟩ := at_T28 HR0.out x9_1 p736 q736
       cases e736
       replace hx736_0 := cup_ HB.out hx736_0; replace hx736_1 := cup_ HB.out hx736_1; replace hx736_2 := cup_ HB.out hx736_2; replace hx736_3 := cup_ HB.out hx736_3
       have HR736_2 := Aside0.mk hi736_2; have HC736_2 := Aside0.mk hl736_2; clear hi736_2 hl736_2; have HR736_3 := Aside0.mk hi736_3; have HC736_3 := Aside0.mk hl736_3; clear hi736_3 hl736_3
       replace p736 := eq_true p736
       replace q736 := eq_true q736
       go_wp2_with (first | ((with_reducible refine gate_dst (N := 5) rfl ?_); refine box_event ?hg (N := 5) ?hd (cs := #[.string (⟨#[]⟩ : ByteArray), .string (⟨#[]⟩ : ByteArray), .slice none 0 0, .slice none 0 0]) (t := 28) ?hr ?_; (case hd => rfl); (case hg => rfl); (case hr => first | (go_simp; done) | (go_simp; rfl)); intro gb737 hg w9 hbox hb; replace HO_3 := Aside0.mk (Kd.R_below (by (with_reducible repeat first | apply Kd.R_alloc | apply Kd.R_drewN | apply Kd.R_drew); exact HO_3.out) hb); have BK737 := Aside0.mk (hbox); have GW737 := Aside0.mk ((by rw [hg]; exact (below_size (by repeat first | (with_reducible first | exact HB.out | apply below_alloc | apply pw_below_drewN | apply below_drew1) | exact HB.out)) : w.heap.size ≤ gb737)); have GE737 := Aside0.mk ((by rw [hg]; exact (below_size (by repeat first | (with_reducible first | exact HB.out | apply below_alloc | apply pw_below_drewN | apply below_drew1) | exact HB.out)) : w.heap.size ≤ gb737)); replace HB := Aside0.mk (below_step (by repeat first | (with_reducible first | exact HB.out | apply below_alloc | apply pw_below_drewN | apply below_drew1) | exact HB.out) hb); clear hb hbox hg; have hcz10_0 : w9.cell? ⟨gb737, 0, none⟩ = some (.string (⟨#[]⟩ : ByteArray)) := (blk_cell BK737.out 0).trans rfl; have hcz10_1 : w9.cell? ⟨gb737, 1, none⟩ = some (.string (⟨#[]⟩ : ByteArray)) := (blk_cell BK737.out 1).trans rfl; have hcz10_2 : w9.cell? ⟨gb737, 2, none⟩ = some (.slice none 0 0) := (blk_cell BK737.out 2).trans rfl; have hcz10_3 : w9.cell? ⟨gb737, 3, none⟩ = some (.slice none 0 0) := (blk_cell BK737.out 3).trans rfl; have hfz10_0 := blk_frozen BK737.out 0; have hfz10_1 := blk_frozen BK737.out 1; have hfz10_2 := blk_frozen BK737.out 2; have hfz10_3 := blk_frozen BK737.out 3; obtain ⟨Ao11, co11, eo11⟩ := Kd.R_slice HO_3.out; subst eo11) | ((with_reducible refine gate_callee (f := 64) rfl ?_); refine goesL_ (some 16) rfl rfl Try.func64 (by kernel_rfl) rfl #[.slice Ao11 x3_1.length co11, .string ((rd_T28 l0 x9_1).f0)] rfl (by (try simp only [List.map_toArray, List.map_cons, List.map_nil]); first | done | rfl) ?_; (with_reducible refine (slices_Contains_string_string.calls k1 _ _ x3_1 ((rd_T28 l0 x9_1).f0) true _ ?side1 ?side2 A7.out).mono ?_); (case side1 => refine (Kd.R_reads' (e := 9) (base := w.heap.size) (ok := fun k_ => True) (n := x3_1.length) (c := co11) ?_).2.2; exact (by (with_reducible repeat first | apply Kd.R_alloc | apply Kd.R_drewN | apply Kd.R_drew); exact (Kd.R_mono (Kd.R_far (p := ⟨gb737, 3, none⟩) (Kd.R_far (p := ⟨gb737, 2, none⟩) (Kd.R_far (p := ⟨gb737, 1, none⟩) (Kd.R_far (p := ⟨gb737, 0, none⟩) (Kd.R_types HO_3.out BK737.out (by decide)) (fun _ hk => hk.2) (.string ((rd_T28 l0 x9_1).f0))) (fun _ hk => hk.2) (.string ((rd_T28 l0 x9_1).f1))) (fun _ hk => hk.2) (.slice A736_2 ((rd_T28 l0 x9_1).f2).length c736_2)) (fun _ hk => hk.2) (.slice A736_3 ((rd_T28 l0 x9_1).f3).length c736_3)) (fun _ h_ => h_.1)))); (case side2 => exact (Kd.R_reads' HO_3.out).2.1); rintro e w' ⟨rfl, ⟨nd, rfl⟩⟩; refine ⟨_, rfl, ?_⟩))
       go_roundg k1
       case measure => have := HK1.out; omega
       case rel => exact ⟨(x3_1), (wrap64 (x9_1 + 1)), (by first | rfl | (simp; done) | (simp [*]; done)), H', ⟨by have := HK1.out; omega⟩, ⟨by (with_reducible repeat first | apply Kd.R_alloc | apply Kd.R_drewN | apply Kd.R_drew); exact Kd.R_mono (Kd.R_far (p := ⟨gb737, 3, none⟩) (Kd.R_far (p := ⟨gb737, 2, none⟩) (Kd.R_far (p := ⟨gb737, 1, none⟩) (Kd.R_far (p := ⟨gb737, 0, none⟩) (Kd.R_types HO_3.out BK737.out (by decide)) (fun _ hk => hk.2) (.string ((rd_T28 l0 x9_1).f0))) (fun _ hk => hk.2) (.string ((rd_T28 l0 x9_1).f1))) (fun _ hk => hk.2) (.slice A736_2 ((rd_T28 l0 x9_1).f2).length c736_2)) (fun _ hk => hk.2) (.slice A736_3 ((rd_T28 l0 x9_1).f3).length c736_3)) (fun _ hk => trivial)⟩, ⟨by repeat (first | (with_reducible first | exact HB.out | apply below_alloc | apply pw_below_drewN | apply below_drew1 | refine below_set ?_ GE737.out) | exact HB.out)⟩⟩
      ·replace c8 := Bool.eq_false_iff.mpr c8
       subst c8
       have H1 : (if x3_1.length < 8796093022208 then (impl_modulesOf.l0 k1 (x3_1 ++ [(rd_T28 l0 x9_1).f0]) l0 (l0.length : Int) (wrap64 (x9_1 + 1))) else (none)) = some r := by rw [if_neg (show ¬ (false = true) by decide)] at H; exact H
       clear H; have H := H1; clear H1
       by_cases c12 : x3_1.length < 8796093022208
       ·rw [if_pos c12] at H
        have LMc12 := Aside0.mk c12; clear c12
        obtain ⟨y739, hy739⟩ : ∃ y_ : List ByteArray, y_ = (x3_1 ++ [(rd_T28 l0 x9_1).f0]) := ⟨_, rfl⟩
        replace H : (impl_modulesOf.l0 k1 y739 l0 (l0.length : Int) (wrap64 (x9_1 + 1))) = some r := by first | (rw [hy739]; with_reducible exact H) | (have H2_ := (Option.bind_some _ _).symm.trans H; rw [hy739]; with_reducible exact H2_) | (have H2_ := (Option.bind_some _ _).symm.trans H; with_reducible exact H2_) | with_reducible exact H | (rw [hy739]; exact H) | exact H
        have Ny739 := Aside0.mk hy739; clear hy739; have H' := Aside0.mk H; clear H
        have p736 : 0 ≤ (x9_1 : Int) := of_decide_eq_true (by first | (with_reducible assumption) | assumption)
        have q736 : x9_1 < (l0.length : Int) := of_decide_eq_true (by first | (with_reducible assumption) | assumption)
        obtain ⟨ad736, A736_2, c736_2, A736_3, c736_3, e736, hx736_0, hx736_1, hx736_2, hx736_3, hl736_2, hi736_2, hl736_3, hi736_3⟩ := at_T28 HR0.out x9_1 p736 q736
        cases e736
        replace hx736_0 := cup_ HB.out hx736_0; replace hx736_1 := cup_ HB.out hx736_1; replace hx736_2 := cup_ HB.out hx736_2; replace hx736_3 := cup_ HB.out hx736_3
        have HR736_2 := Aside0.mk hi736_2; have HC736_2 := Aside0.mk hl736_2; clear hi736_2 hl736_2; have HR736_3 := Aside0.mk hi736_3; have HC736_3 := Aside0.mk hl736_3; clear hi736_3 hl736_3
        replace p736 := eq_true p736
        replace q736 := eq_true q736
        go_wp2_with (first | ((with_reducible refine gate_dst (N := 5) rfl ?_); refine box_event ?hg (N := 5) ?hd (cs := #[.string (⟨#[]⟩ : ByteArray), .string (⟨#[]⟩ : ByteArray), .slice none 0 0, .slice none 0 0]) (t := 28) ?hr ?_; (case hd => rfl); (case hg => rfl); (case hr => first | (go_simp; done) | (go_simp; rfl)); intro gb737 hg w13 hbox hb; replace HO_3 := Aside0.mk (Kd.R_below (by (with_reducible repeat first | apply Kd.R_alloc | apply Kd.R_drewN | apply Kd.R_drew); exact HO_3.out) hb); have BK737 := Aside0.mk (hbox); have GW737 := Aside0.mk ((by rw [hg]; exact (below_size (by repeat first | (with_reducible first | exact HB.out | apply below_alloc | apply pw_below_drewN | apply below_drew1) | exact HB.out)) : w.heap.size ≤ gb737)); have GE737 := Aside0.mk ((by rw [hg]; exact (below_size (by repeat first | (with_reducible first | exact HB.out | apply below_alloc | apply pw_below_drewN | apply below_drew1) | exact HB.out)) : w.heap.size ≤ gb737)); replace HB := Aside0.mk (below_step (by repeat first | (with_reducible first | exact HB.out | apply below_alloc | apply pw_below_drewN | apply below_drew1) | exact HB.out) hb); clear hb hbox hg; have hcz14_0 : w13.cell? ⟨gb737, 0, none⟩ = some (.string (⟨#[]⟩ : ByteArray)) := (blk_cell BK737.out 0).trans rfl; have hcz14_1 : w13.cell? ⟨gb737, 1, none⟩ = some (.string (⟨#[]⟩ : ByteArray)) := (blk_cell BK737.out 1).trans rfl; have hcz14_2 : w13.cell? ⟨gb737, 2, none⟩ = some (.slice none 0 0) := (blk_cell BK737.out 2).trans rfl; have hcz14_3 : w13.cell? ⟨gb737, 3, none⟩ = some (.slice none 0 0) := (blk_cell BK737.out 3).trans rfl; have hfz14_0 := blk_frozen BK737.out 0; have hfz14_1 := blk_frozen BK737.out 1; have hfz14_2 := blk_frozen BK737.out 2; have hfz14_3 := blk_frozen BK737.out 3; obtain ⟨Ao15, co15, eo15⟩ := Kd.R_slice HO_3.out; subst eo15) | ((with_reducible refine gate_callee (f := 64) rfl ?_); refine goesL_ (some 16) rfl rfl Try.func64 (by kernel_rfl) rfl #[.slice Ao15 x3_1.length co15, .string ((rd_T28 l0 x9_1).f0)] rfl (by (try simp only [List.map_toArray, List.map_cons, List.map_nil]); first | done | rfl) ?_; (with_reducible refine (slices_Contains_string_string.calls k1 _ _ x3_1 ((rd_T28 l0 x9_1).f0) false _ ?side1 ?side2 A7.out).mono ?_); (case side1 => refine (Kd.R_reads' (e := 9) (base := w.heap.size) (ok := fun k_ => True) (n := x3_1.length) (c := co15) ?_).2.2; exact (by (with_reducible repeat first | apply Kd.R_alloc | apply Kd.R_drewN | apply Kd.R_drew); exact (Kd.R_mono (Kd.R_far (p := ⟨gb737, 3, none⟩) (Kd.R_far (p := ⟨gb737, 2, none⟩) (Kd.R_far (p := ⟨gb737, 1, none⟩) (Kd.R_far (p := ⟨gb737, 0, none⟩) (Kd.R_types HO_3.out BK737.out (by decide)) (fun _ hk => hk.2) (.string ((rd_T28 l0 x9_1).f0))) (fun _ hk => hk.2) (.string ((rd_T28 l0 x9_1).f1))) (fun _ hk => hk.2) (.slice A736_2 ((rd_T28 l0 x9_1).f2).length c736_2)) (fun _ hk => hk.2) (.slice A736_3 ((rd_T28 l0 x9_1).f3).length c736_3)) (fun _ h_ => h_.1)))); (case side2 => exact (Kd.R_reads' HO_3.out).2.1); rintro e w' ⟨rfl, ⟨nd, rfl⟩⟩; refine ⟨_, rfl, ?_⟩) | ((with_reducible refine gate_builtin (b := .append) (xs := #[.tmp 18, .tmp 21]) rfl ?_); at_builtin; refine Kd.R_append Kd.string (w0 := w) w.heap.size rfl (.tmp 18) (.tmp 21) 23 9 (.string ⟨#[]⟩) 16 rfl Try.underlying23 info9 rfl (by decide) (by omega) (.slice Ao15 x3_1.length co15) x3_1 ((rd_T28 l0 x9_1).f0) [.string ((rd_T28 l0 x9_1).f0)] (fun _ => True) (fun _ => False) rfl (by first | (go_simp; done) | (go_simp; rfl)) ?aP (fun _ hk => hk.elim) ?aF ?aO ?aB ?aS ?aL ?_; (case aP => exact rfl); (case aB => exact (by repeat first | (with_reducible first | exact HB.out | apply below_alloc | apply pw_below_drewN | apply below_drew1 | refine below_set ?_ GE737.out) | exact HB.out)); (case aF => exact (fun _ _ => trivial)); (case aO => exact (by (with_reducible repeat first | apply Kd.R_alloc | apply Kd.R_drewN | apply Kd.R_drew); exact Kd.R_mono (Kd.R_far (p := ⟨gb737, 3, none⟩) (Kd.R_far (p := ⟨gb737, 2, none⟩) (Kd.R_far (p := ⟨gb737, 1, none⟩) (Kd.R_far (p := ⟨gb737, 0, none⟩) (Kd.R_types HO_3.out BK737.out (by decide)) (fun _ hk => hk.2) (.string ((rd_T28 l0 x9_1).f0))) (fun _ hk => hk.2) (.string ((rd_T28 l0 x9_1).f1))) (fun _ hk => hk.2) (.slice A736_2 ((rd_T28 l0 x9_1).f2).length c736_2)) (fun _ hk => hk.2) (.slice A736_3 ((rd_T28 l0 x9_1).f3).length c736_3)) (fun _ hk => trivial))); (case aS => exact (below_size (by repeat first | (with_reducible first | exact HB.out | apply below_alloc | apply pw_below_drewN | apply below_drew1 | refine below_set ?_ GE737.out) | exact HB.out))); (case aL => have := LMc12.out; omega); intro v740 w16 ho hb hg hat; rw [← Ny739.out] at ho; replace BK737 := Aside0.mk (blk_grown (g := gb737) (o := .cells #[.string ((rd_T28 l0 x9_1).f0), .string ((rd_T28 l0 x9_1).f1), .slice A736_2 ((rd_T28 l0 x9_1).f2).length c736_2, .slice A736_3 ((rd_T28 l0 x9_1).f3).length c736_3] 28 (0, 0)) (by (with_reducible repeat first | apply blk_drewN | apply blk_drew | apply blk_alloc); refine blk_put (cs := #[.string ((rd_T28 l0 x9_1).f0), .string ((rd_T28 l0 x9_1).f1), .slice A736_2 ((rd_T28 l0 x9_1).f2).length c736_2, .slice none 0 0]) ?_ 3 _ rfl; (with_reducible repeat first | apply blk_drewN | apply blk_drew | apply blk_alloc); refine blk_put (cs := #[.string ((rd_T28 l0 x9_1).f0), .string ((rd_T28 l0 x9_1).f1), .slice none 0 0, .slice none 0 0]) ?_ 2 _ rfl; (with_reducible repeat first | apply blk_drewN | apply blk_drew | apply blk_alloc); refine blk_put (cs := #[.string ((rd_T28 l0 x9_1).f0), .string (⟨#[]⟩ : ByteArray), .slice none 0 0, .slice none 0 0]) ?_ 1 _ rfl; (with_reducible repeat first | apply blk_drewN | apply blk_drew | apply blk_alloc); refine blk_put (cs := #[.string (⟨#[]⟩ : ByteArray), .string (⟨#[]⟩ : ByteArray), .slice none 0 0, .slice none 0 0]) ?_ 0 _ rfl; (with_reducible repeat first | apply blk_drewN | apply blk_drew | apply blk_alloc); exact BK737.out) hg (Kd.R_ne HO_3.out BK737.out (by decide))); replace HB := Aside0.mk (hb); have HO741 := Aside0.mk (ho); clear HO_3; clear ho hb hg hat))
        go_roundg k1
        case measure => have := HK1.out; omega
        case rel => exact ⟨(y739), (wrap64 (x9_1 + 1)), (by first | rfl | (simp; done) | (simp [*]; done)), H', ⟨by have := HK1.out; omega⟩, ⟨by (with_reducible repeat first | apply Kd.R_alloc | apply Kd.R_drewN | apply Kd.R_drew); exact HO741.out⟩, ⟨by repeat (first | (with_reducible first | exact HB.out | apply below_alloc | apply pw_below_drewN | apply below_drew1 | refine below_set ?_ GE737.out) | exact HB.out)⟩⟩
       ·rw [if_neg c12] at H
        exact absurd H (by simp)
     ·rw [if_neg c6] at H
      exact absurd H (by simp)
    ·rw [if_neg c5] at H
     exact absurd H (by simp)
   ·rw [if_neg c4] at H
    have c4b0 : decide (x9_1 < (l0.length : Int)) = false := decide_eq_false c4
    clear c4
    obtain rfl := Option.some.inj H
    go_wp2
    go_ret
    exact ⟨_, by first | rfl | (simp [errW_none, errW_some] <;> rfl) | (simp [*, errW_none, errW_some] <;> rfl), by (with_reducible repeat first | apply Kd.R_alloc | apply Kd.R_drewN | apply Kd.R_drew); exact HO_3.out, by repeat (first | (with_reducible first | exact HB.out | apply below_alloc | apply pw_below_drewN | apply below_drew1) | exact HB.out)⟩

/-! ### impl_ModulesOf: function 37 -/
def impl_ModulesOf.f (k : Nat) (l0 : List (S28)) : Option (List ByteArray) := (impl_ValidTests.f k l0).bind fun t742 => (if t742 = true then ((impl_modulesOf.f k l0).bind fun t743 => (some t743)) else (some ([] : List ByteArray)))
theorem impl_ModulesOf.mono : ∀ a0 k, LeO (impl_ModulesOf.f k a0) (impl_ModulesOf.f (k + 1) a0) := by
 intro a0 k
 unfold impl_ModulesOf.f
 repeat' first
   | (with_reducible exact impl_ValidTests.mono _ _)
   | (with_reducible exact impl_modulesOf.mono _ _)
   | (with_reducible exact LeO.refl _)
   | (with_reducible exact LeO.none _)
   | (with_reducible refine LeO.ite ?_ ?_)
   | (with_reducible refine LeO.bind ?_ (fun _ => ?_))
   | refine LeO.ite ?_ ?_
   | refine LeO.bind ?_ (fun _ => ?_)
set_option maxHeartbeats 8000000 in
set_option maxRecDepth 100000 in
theorem impl_ModulesOf.calls (k : Nat) (A0 : Option Addr) (c0 : Nat) (l0 : List (S28)) (r : List ByteArray) (w : World) (hr0 : Kd.C k28 w A0 l0.length l0) (hc0 : l0.length ≤ c0) (h : impl_ModulesOf.f k l0 = some r) :
  Calls Try.prog 37 #[.slice A0 l0.length c0] w fun e w' => ∃ v0_ : Value, e = .returned (v0_) ∧ Kd.R Kd.string 9 w' w.heap.size (fun _ => True) v0_ r ∧ Below w.heap.size w w' := by
 have HR0 := Aside0.mk hr0; have HC0 := Aside0.mk hc0; clear hr0 hc0; have HB := Aside0.mk (Below.refl w.heap.size w)
 have H : ((impl_ValidTests.f k l0).bind fun t742 => (if t742 = true then ((impl_modulesOf.f k l0).bind fun t743 => (some t743)) else (some ([] : List ByteArray)))) = some r := h
 clear h
 replace H := Option.bind_eq_some_iff.mp H
 obtain ⟨t742, A20, H⟩ := H
 replace H : (if t742 = true then ((impl_modulesOf.f k l0).bind fun t743 => (some t743)) else (some ([] : List ByteArray))) = some r := H
 have A2 := Aside0.mk A20; clear A20
 by_cases c3 : t742 = true
 ·subst c3
  have H1 : ((impl_modulesOf.f k l0).bind fun t743 => (some t743)) = some r := by rw [if_pos rfl] at H; exact H
  clear H; have H := H1; clear H1
  replace H := Option.bind_eq_some_iff.mp H
  obtain ⟨t743, A40, H⟩ := H
  replace H : (some t743) = some r := H
  have A4 := Aside0.mk A40; clear A40
  obtain rfl := Option.some.inj H
  go_enter Try.func37, Try.ntmps37
  go_wp2_with (first | ((with_reducible refine gate_callee (f := 39) rfl ?_); refine goesL_ (some 4) rfl rfl Try.func39 (by kernel_rfl) rfl #[.slice A0 l0.length c0] rfl (by (try simp only [List.map_toArray, List.map_cons, List.map_nil]); first | done | rfl) ?_; (with_reducible refine (impl_ValidTests.calls k _ _ l0 true _ ?side1 ?side2 A2.out).mono ?_); (case side1 => repeat (first | exact HR0.out | with_reducible first | apply Kd.C_alloc | apply Kd.C_drewN | apply Kd.C_drew)); (case side2 => exact HC0.out); rintro e w5 ⟨rfl, hb⟩; refine ⟨_, rfl, ?_⟩; replace HB := Aside0.mk (below_step (by repeat first | (with_reducible first | exact HB.out | apply below_alloc | apply pw_below_drewN | apply below_drew1) | exact HB.out) hb); (try clear hb)) | ((with_reducible refine gate_callee (f := 61) rfl ?_); refine goesL_ (some 7) rfl rfl Try.func61 (by kernel_rfl) rfl #[.slice A0 l0.length c0] rfl (by (try simp only [List.map_toArray, List.map_cons, List.map_nil]); first | done | rfl) ?_; (with_reducible refine (impl_modulesOf.calls k _ _ l0 t743 _ ?side1 ?side2 A4.out).mono ?_); (case side1 => repeat (first | exact (Kd.C_below HR0.out HB.out) | with_reducible first | apply Kd.C_alloc | apply Kd.C_drewN | apply Kd.C_drew)); (case side2 => exact HC0.out); rintro e w6 ⟨v744, rfl, ho0, hb⟩; refine ⟨_, rfl, ?_⟩; have HO745 := Aside0.mk (Kd.R_lower ho0 (below_size (by repeat first | (with_reducible first | exact HB.out | apply below_alloc | apply pw_below_drewN | apply below_drew1) | exact HB.out))); replace HB := Aside0.mk (below_step (by repeat first | (with_reducible first | exact HB.out | apply below_alloc | apply pw_below_drewN | apply below_drew1) | exact HB.out) hb); (try clear hb); (try clear ho0)))
  go_ret
  exact ⟨_, by first | rfl | (simp [errW_none, errW_some] <;> rfl) | (simp [*, errW_none, errW_some] <;> rfl), by (with_reducible repeat first | apply Kd.R_alloc | apply Kd.R_drewN | apply Kd.R_drew); exact HO745.out, by repeat (first | (with_reducible first | exact HB.out | apply below_alloc | apply pw_below_drewN | apply below_drew1) | exact HB.out)⟩
 ·replace c3 := Bool.eq_false_iff.mpr c3
  subst c3
  have H1 : (some ([] : List ByteArray)) = some r := by rw [if_neg (show ¬ (false = true) by decide)] at H; exact H
  clear H; have H := H1; clear H1
  obtain rfl := Option.some.inj H
  go_enter Try.func37, Try.ntmps37
  go_wp2_with (first | ((with_reducible refine gate_callee (f := 39) rfl ?_); refine goesL_ (some 4) rfl rfl Try.func39 (by kernel_rfl) rfl #[.slice A0 l0.length c0] rfl (by (try simp only [List.map_toArray, List.map_cons, List.map_nil]); first | done | rfl) ?_; (with_reducible refine (impl_ValidTests.calls k _ _ l0 false _ ?side1 ?side2 A2.out).mono ?_); (case side1 => repeat (first | exact HR0.out | with_reducible first | apply Kd.C_alloc | apply Kd.C_drewN | apply Kd.C_drew)); (case side2 => exact HC0.out); rintro e w7 ⟨rfl, hb⟩; refine ⟨_, rfl, ?_⟩; replace HB := Aside0.mk (below_step (by repeat first | (with_reducible first | exact HB.out | apply below_alloc | apply pw_below_drewN | apply below_drew1) | exact HB.out) hb); (try clear hb)))
  go_ret
  exact ⟨_, by first | rfl | (simp [errW_none, errW_some] <;> rfl) | (simp [*, errW_none, errW_some] <;> rfl), by first | exact Kd.R_nil _ _ _ _ _ | exact Kd.N_nil _ _ _ _ _ | exact Kd.V_nil _ _ _ _ _ | exact Kd.Q_nil _ _ _ _ _ | exact Kd.S_nil _ _ _ _ _, by repeat (first | (with_reducible first | exact HB.out | apply below_alloc | apply pw_below_drewN | apply below_drew1) | exact HB.out)⟩

end Go.Proofs.Ytdllommmccgleaa.E
