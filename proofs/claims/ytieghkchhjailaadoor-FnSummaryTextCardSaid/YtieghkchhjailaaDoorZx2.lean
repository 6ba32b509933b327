-- WRITTEN by wip/ext.py
import Derived.Test.YtieghkchhjailaaDoorZx0
import Derived.Test.YtieghkchhjailaaDoorZx1
namespace Go.Proofs.YtieghkchhjailaaDoor.Z
open Go.RowKit Go.Proofs.YtieghkchhjailaaDoorW.PrintWords Go.Proofs.YtieghkchhjailaaDoorW.PrintLast Go.Proofs.YtieghkchhjailaaDoorW.PrintMore
attribute [local go_sem] max2_int min2_int max_two min_two max_three min_three max_four min_four   -- for this text's walks alone
set_option linter.unusedVariables false
set_option linter.unusedSimpArgs false

/-! ### spec_someReport: function 7 -/
mutual
def spec_someReport.l0 : Nat → Int → List Int → Int → List (S30) → List ByteArray → Option ((List (S30)) × List ByteArray × Int)
 | 0, _, _, _, _, _ => none
 | k + 1, x4, x1000, x1001, x130000, x130001 => if x4 > 0 then ((spec_anId.f k x1000 x1001).bind fun bt135 => ((spec_reader_one.f k x1000 bt135.2 (([0, 1, 2, 3, 4, 5, 0, 1] : List Int))).bind fun bt140 => (if x130000.length < 5864062014805 then (spec_someReport.l0 k (wrap64 (x4 - 1)) x1000 bt140.2 (x130000 ++ [(⟨bt135.1, bt140.1⟩ : S30)]) x130001) else (none)))) else ((spec_reader_one.f k x1000 x1001 (([0, 1, 2, 0] : List Int))).bind fun bt148 => (spec_someReport.l1 k bt148.1 x1000 bt148.2 x130000 x130001))
def spec_someReport.l1 : Nat → Int → List Int → Int → List (S30) → List ByteArray → Option ((List (S30)) × List ByteArray × Int)
 | 0, _, _, _, _, _ => none
 | k + 1, x5, x1000, x1001, x130000, x130001 => if x5 > 0 then ((spec_reader_of.f k x1000 x1001 (([(⟨#[100, 98]⟩ : ByteArray), (⟨#[116, 109, 112]⟩ : ByteArray)] : List ByteArray))).bind fun bt153 => (if x130001.length < 8796093022208 then (spec_someReport.l1 k (wrap64 (x5 - 1)) x1000 bt153.2 x130000 (x130001 ++ [bt153.1])) else (none))) else (if (x130000.length : Int) > 0 then ((spec_reader_pick.f k x1000 x1001 24).bind fun bt158 => (spec_someReport.j2 k (bt158.1 == 0) x1000 bt158.2 x130000 x130001)) else (spec_someReport.j2 k false x1000 x1001 x130000 x130001))
def spec_someReport.j2 : Nat → Bool → List Int → Int → List (S30) → List ByteArray → Option ((List (S30)) × List ByteArray × Int)
 | 0, _, _, _, _, _ => none
 | k + 1, x50, x1000, x1001, x130000, x130001 => if x50 = true then ((spec_reader_of.f k x1000 x1001 (([(⟨#[109]⟩ : ByteArray), (⟨#[109, 46, 97, 46, 98]⟩ : ByteArray), (⟨#[77, 46, 97]⟩ : ByteArray)] : List ByteArray))).bind fun bt163 => ((spec_reader_one.f k x1000 bt163.2 (([0, 6, (-1)] : List Int))).bind fun bt168 => (if 0 < (x130000.length : Int) then (some ((x130000.set (0 : Int).toNat (⟨bt163.1, bt168.1⟩ : S30)), x130001, bt168.2)) else (none)))) else (some (x130000, x130001, x1001))
end
def spec_someReport.f (k : Nat) (s0_0 : List Int) (s0_1 : Int) : Option ((List (S30)) × List ByteArray × Int) := (spec_reader_one.f k s0_0 s0_1 (([4, 3, 5, 2, 1, 0] : List Int))).bind fun bt133 => (spec_someReport.l0 k bt133.1 s0_0 bt133.2 (([] : List (S30))) (([] : List ByteArray)))
theorem spec_someReport.mono_l : ∀ k, (∀ y0 y1 y2 y3 y4, LeO (spec_someReport.l0 k y0 y1 y2 y3 y4) (spec_someReport.l0 (k + 1) y0 y1 y2 y3 y4)) ∧ (∀ y0 y1 y2 y3 y4, LeO (spec_someReport.l1 k y0 y1 y2 y3 y4) (spec_someReport.l1 (k + 1) y0 y1 y2 y3 y4)) ∧ (∀ y0 y1 y2 y3 y4, LeO (spec_someReport.j2 k y0 y1 y2 y3 y4) (spec_someReport.j2 (k + 1) y0 y1 y2 y3 y4))
 | 0 => ⟨fun _ _ _ _ _ r h => by simp [spec_someReport.l0] at h, fun _ _ _ _ _ r h => by simp [spec_someReport.l1] at h, fun _ _ _ _ _ r h => by simp [spec_someReport.j2] at h⟩
 | k + 1 => by
  obtain ⟨ih0, ih1, ih2⟩ := spec_someReport.mono_l k
  refine ⟨?_, ?_, ?_⟩
  ·intro y0 y1 y2 y3 y4
   unfold spec_someReport.l0
   repeat' first
   | (with_reducible exact ih0 _ _ _ _ _)
   | (with_reducible exact ih1 _ _ _ _ _)
   | (with_reducible exact ih2 _ _ _ _ _)
   | (with_reducible exact spec_anId.mono _ _ _)
   | (with_reducible exact spec_reader_of.mono _ _ _ _)
   | (with_reducible exact spec_reader_one.mono _ _ _ _)
   | (with_reducible exact spec_reader_pick.mono _ _ _ _)
   | (with_reducible exact LeO.refl _)
   | (with_reducible exact LeO.none _)
   | (with_reducible refine LeO.ite ?_ ?_)
   | (with_reducible refine LeO.bind ?_ (fun _ => ?_))
   | refine LeO.ite ?_ ?_
   | refine LeO.bind ?_ (fun _ => ?_)
  ·intro y0 y1 y2 y3 y4
   unfold spec_someReport.l1
   repeat' first
   | (with_reducible exact ih0 _ _ _ _ _)
   | (with_reducible exact ih1 _ _ _ _ _)
   | (with_reducible exact ih2 _ _ _ _ _)
   | (with_reducible exact spec_anId.mono _ _ _)
   | (with_reducible exact spec_reader_of.mono _ _ _ _)
   | (with_reducible exact spec_reader_one.mono _ _ _ _)
   | (with_reducible exact spec_reader_pick.mono _ _ _ _)
   | (with_reducible exact LeO.refl _)
   | (with_reducible exact LeO.none _)
   | (with_reducible refine LeO.ite ?_ ?_)
   | (with_reducible refine LeO.bind ?_ (fun _ => ?_))
   | refine LeO.ite ?_ ?_
   | refine LeO.bind ?_ (fun _ => ?_)
  ·intro y0 y1 y2 y3 y4
   unfold spec_someReport.j2
   repeat' first
   | (with_reducible exact ih0 _ _ _ _ _)
   | (with_reducible exact ih1 _ _ _ _ _)
   | (with_reducible exact ih2 _ _ _ _ _)
   | (with_reducible exact spec_anId.mono _ _ _)
   | (with_reducible exact spec_reader_of.mono _ _ _ _)
   | (with_reducible exact spec_reader_one.mono _ _ _ _)
   | (with_reducible exact spec_reader_pick.mono _ _ _ _)
   | (with_reducible exact LeO.refl _)
   | (with_reducible exact LeO.none _)
   | (with_reducible refine LeO.ite ?_ ?_)
   | (with_reducible refine LeO.bind ?_ (fun _ => ?_))
   | refine LeO.ite ?_ ?_
   | refine LeO.bind ?_ (fun _ => ?_)
theorem spec_someReport.mono : ∀ a0 a1 k, LeO (spec_someReport.f k a0 a1) (spec_someReport.f (k + 1) a0 a1) := by
 intro a0 a1 k
 obtain ⟨ih0, ih1, ih2⟩ := spec_someReport.mono_l k
 unfold spec_someReport.f
 repeat' first
   | (with_reducible exact ih0 _ _ _ _ _)
   | (with_reducible exact ih1 _ _ _ _ _)
   | (with_reducible exact ih2 _ _ _ _ _)
   | (with_reducible exact spec_anId.mono _ _ _)
   | (with_reducible exact spec_reader_of.mono _ _ _ _)
   | (with_reducible exact spec_reader_one.mono _ _ _ _)
   | (with_reducible exact spec_reader_pick.mono _ _ _ _)
   | (with_reducible exact LeO.refl _)
   | (with_reducible exact LeO.none _)
   | (with_reducible refine LeO.ite ?_ ?_)
   | (with_reducible refine LeO.bind ?_ (fun _ => ?_))
   | refine LeO.ite ?_ ?_
   | refine LeO.bind ?_ (fun _ => ?_)
def spec_someReport.T5 : Bool × List (List Nat × List Nat) := (true, [([], []), ([0], [0]), ([], []), ([2], [2]), ([], []), ([], []), ([4, 5, 3], [4, 5]), ([3, 6], [3, 6]), ([7], [7]), ([1, 8, 6], [1, 8]), ([0, 1, 2, 3, 4, 5, 6, 7, 8, 9], []), ([10, 9, 9, 0, 1, 2, 3, 4, 5, 6, 7, 8, 9], [9, 10])])
def spec_someReport.B5 : List Nat := [0, 1, 0, 4, 0, 0, 60, 124, 252, 511, 1023, 2047]
theorem spec_someReport.tab5 : rtab .any (opsOf Tryd.f7 5) = spec_someReport.T5 := by kernel_rfl
theorem spec_someReport.bits5 : waitsOk spec_someReport.T5.2 spec_someReport.B5 = true := by kernel_rfl
def spec_someReport.T9 : Bool × List (List Nat × List Nat) := (true, [([], []), ([0], [0]), ([], []), ([], []), ([2, 3], [2, 3]), ([4], [4]), ([1, 5, 4], [1, 5]), ([0, 1, 2, 3, 4, 5, 6], []), ([7, 6, 6, 0, 1, 2, 3, 4, 5, 6], [6, 7])])
def spec_someReport.B9 : List Nat := [0, 1, 0, 0, 12, 28, 63, 127, 255]
theorem spec_someReport.tab9 : rtab .any (opsOf Tryd.f7 9) = spec_someReport.T9 := by kernel_rfl
theorem spec_someReport.bits9 : waitsOk spec_someReport.T9.2 spec_someReport.B9 = true := by kernel_rfl
def spec_someReport.T11 : Bool × List (List Nat × List Nat) := (true, [([], []), ([0], [0]), ([], []), ([], []), ([2, 3], [2, 3]), ([], []), ([], []), ([5, 6, 4], [5, 6]), ([4, 7], [4, 7]), ([1, 0, 1, 2, 3, 4, 5, 6, 7, 8], [1]), ([9, 8, 7, 0, 1, 2, 3, 4, 5, 6, 7, 8], [8, 9])])
def spec_someReport.B11 : List Nat := [0, 1, 0, 0, 12, 0, 0, 124, 252, 511, 1023]
theorem spec_someReport.tab11 : rtab .any (opsOf Tryd.f7 11) = spec_someReport.T11 := by kernel_rfl
theorem spec_someReport.bits11 : waitsOk spec_someReport.T11.2 spec_someReport.B11 = true := by kernel_rfl
set_option maxHeartbeats 8000000 in
set_option maxRecDepth 100000 in
theorem spec_someReport.calls (k : Nat) (g : Nat) (s0_0 : List Int) (s0_1 : Int) (r1 : List (S30)) (r2 : List ByteArray) (r3 : Int) (w0 w : World) (hI : IsS45 w0 w g s0_0 s0_1) (hB : Below w0.heap.size w0 w) (h : spec_someReport.f k s0_0 s0_1 = some (r1, r2, r3)) :
  Calls Tryd.prog 7 #[.pointer (some ⟨g, 0, none⟩)] w fun e w' => ∃ v0_ v1_ : Value, e = .returned (.agg #[v0_, v1_]) ∧ Kd.R k30 30 w' w.heap.size (fun _ => True) v0_ r1 ∧ Kd.R Kd.string 9 w' w.heap.size (fun _ => True) v1_ r2 ∧ IsS45 w0 w' g s0_0 r3 ∧ Below w0.heap.size w0 w' ∧ KeepBut w w' g none := by
 have hu26 := Tryd.underlying26; have hu30 := Tryd.underlying30; have HI0 := Aside0.mk hI; have HK := Aside0.mk (KeepBut.refl w g none); have HL := Aside0.mk hB.size; clear hI; have HW0 := Aside0.mk hB.size; have HB := Aside0.mk hB; clear hB
 have H : ((spec_reader_one.f k s0_0 s0_1 (([4, 3, 5, 2, 1, 0] : List Int))).bind fun bt133 => (spec_someReport.l0 k bt133.1 s0_0 bt133.2 (([] : List (S30))) (([] : List ByteArray)))) = some (r1, r2, r3) := h
 clear h
 obtain ⟨y123, hy123⟩ : ∃ y_ : List (S30), y_ = (([] : List (S30))) := ⟨_, rfl⟩
 replace H : ((spec_reader_one.f k s0_0 s0_1 (([4, 3, 5, 2, 1, 0] : List Int))).bind fun bt133 => (spec_someReport.l0 k bt133.1 s0_0 bt133.2 y123 (([] : List ByteArray)))) = some (r1, r2, r3) := by first | (rw [hy123]; with_reducible exact H) | (have H2_ := (Option.bind_some _ _).symm.trans H; rw [hy123]; with_reducible exact H2_) | (have H2_ := (Option.bind_some _ _).symm.trans H; with_reducible exact H2_) | with_reducible exact H | (rw [hy123]; exact H) | exact H
 have Ny123 := Aside0.mk hy123; clear hy123
 obtain ⟨y126, hy126⟩ : ∃ y_ : List ByteArray, y_ = (([] : List ByteArray)) := ⟨_, rfl⟩
 replace H : ((spec_reader_one.f k s0_0 s0_1 (([4, 3, 5, 2, 1, 0] : List Int))).bind fun bt133 => (spec_someReport.l0 k bt133.1 s0_0 bt133.2 y123 y126)) = some (r1, r2, r3) := by first | (rw [hy126]; with_reducible exact H) | (have H2_ := (Option.bind_some _ _).symm.trans H; rw [hy126]; with_reducible exact H2_) | (have H2_ := (Option.bind_some _ _).symm.trans H; with_reducible exact H2_) | with_reducible exact H | (rw [hy126]; exact H) | exact H
 have Ny126 := Aside0.mk hy126; clear hy126
 obtain ⟨y130, hy130⟩ : ∃ y_ : List Int, y_ = (([4, 3, 5, 2, 1, 0] : List Int)) := ⟨_, rfl⟩
 replace H : ((spec_reader_one.f k s0_0 s0_1 y130).bind fun bt133 => (spec_someReport.l0 k bt133.1 s0_0 bt133.2 y123 y126)) = some (r1, r2, r3) := by first | (rw [hy130]; with_reducible exact H) | (have H2_ := (Option.bind_some _ _).symm.trans H; rw [hy130]; with_reducible exact H2_) | (have H2_ := (Option.bind_some _ _).symm.trans H; with_reducible exact H2_) | with_reducible exact H | (rw [hy130]; exact H) | exact H
 have Ny130 := Aside0.mk hy130; clear hy130
 replace H := Option.bind_eq_some_iff.mp H
 obtain ⟨⟨t133, t134⟩, A20, H⟩ := H
 replace H : (spec_someReport.l0 k t133 s0_0 t134 y123 y126) = some (r1, r2, r3) := H
 have A2 := Aside0.mk A20; clear A20; have H' := Aside0.mk H; clear H
 go_enter Tryd.func7, Tryd.ntmps7
 go_wp2_with (first | ((with_reducible refine gate_dst (N := 2) rfl ?_); refine box_event ?hg (N := 2) ?hd (cs := #[.slice none 0 0, .slice none 0 0]) (t := 26) ?hr ?_; (case hd => rfl); (case hg => rfl); (case hr => first | (go_simp; done) | (go_simp; rfl)); intro gb122 hg w3 hbox hb; replace HB := Aside0.mk (below_step (by repeat first | (with_reducible first | exact HB.out | apply below_alloc | apply pw_below_drewN | apply below_drew1 | refine below_set ?_ (IsS45.ge HI0.out)) | exact HB.out) hb); have BK122 := Aside0.mk (hbox); have GW122 := Aside0.mk ((by rw [hg]; exact (keep_size (w := w) (g := g) (row := none) (by repeat first | (with_reducible first | exact HK.out | apply KeepBut.set_ | apply keep_drewN | apply keep_drew | apply keep_alloc) | exact HK.out)) : w.heap.size ≤ gb122)); have GE122 := Aside0.mk ((Nat.le_trans HW0.out (by rw [hg]; exact (keep_size (w := w) (g := g) (row := none) (by repeat first | (with_reducible first | exact HK.out | apply KeepBut.set_ | apply keep_drewN | apply keep_drew | apply keep_alloc) | exact HK.out)) : w.heap.size ≤ gb122) : w0.heap.size ≤ gb122)); replace HK := Aside0.mk (KeepBut.trans (by repeat first | (with_reducible first | exact HK.out | apply KeepBut.set_ | apply keep_drewN | apply keep_drew | apply keep_alloc) | exact HK.out) (KeepBut.of_below hb g none) (.inl rfl)); have NB0_122 := Aside0.mk ((by rw [hg]; exact Nat.ne_of_lt (IsS45.lt (show IsS45 w0 _ g s0_0 s0_1 from by repeat (first | (with_reducible first | exact HI0.out | apply IsS45.alloc | apply IsS45.drewN | apply IsS45.drew | apply IsS45.set_1) | exact HI0.out))) : g ≠ gb122)); have NB122_0 := Aside0.mk ((by rw [hg]; exact Nat.ne_of_gt (IsS45.lt (show IsS45 w0 _ g s0_0 s0_1 from by repeat (first | (with_reducible first | exact HI0.out | apply IsS45.alloc | apply IsS45.drewN | apply IsS45.drew | apply IsS45.set_1) | exact HI0.out))) : gb122 ≠ g)); replace HI0 := Aside0.mk (IsS45.below (by repeat first | (with_reducible first | exact HI0.out | apply IsS45.alloc | apply IsS45.drewN | apply IsS45.drew | apply IsS45.set_1) | exact HI0.out) hb); clear hb hbox hg) | ((with_reducible refine gate_dst (N := 6) rfl ?_); refine Kd.R_lit k30 _ 30 ?hg (N := 6) ?hd (xs := ([] : List (S30))) (inner := []) (ok := fun _ => True) (okp := fun _ => True) ?hr ?hp (fun _ hk => hk) trivial (Below.refl _ _) (Nat.le_refl _) (by simp) ?_; (case hd => rfl); (case hg => rfl); (case hr => first | (go_simp; done) | (go_simp; rfl)); (case hp => exact (Reps.none _ _)); intro v124 w4 ho5 hb hg_ hnew_; clear hg_ hnew_; (first | rw [← Ny123.out] at ho5 | (simp only [Int.reduceToNat] at ho5; rw [← Ny123.out] at ho5)); have HO125 := Aside0.mk (Kd.R_lower ho5 (keep_size (w := w) (g := g) (row := none) (by repeat first | (with_reducible first | exact HK.out | apply KeepBut.set_ | apply keep_drewN | apply keep_drew | apply keep_alloc | refine keep_far ?_ GW122.out _) | exact HK.out))); replace BK122 := Aside0.mk (blk_below (g := gb122) (o := .cells #[.slice none 0 0, .slice none 0 0] 26 (0, 0)) (by (with_reducible repeat first | apply blk_drewN | apply blk_drew | apply blk_alloc); exact BK122.out) hb); replace HK := Aside0.mk (KeepBut.trans (by repeat first | (with_reducible first | exact HK.out | apply KeepBut.set_ | apply keep_drewN | apply keep_drew | apply keep_alloc | refine keep_far ?_ GW122.out _) | exact HK.out) (KeepBut.of_below hb g none) (.inl rfl)); replace HB := Aside0.mk (below_step (by repeat first | (with_reducible first | exact HB.out | apply below_alloc | apply pw_below_drewN | apply below_drew1 | refine below_set ?_ (IsS45.ge HI0.out) | refine below_set ?_ GE122.out) | exact HB.out) hb); replace HI0 := Aside0.mk (IsS45.below (by repeat first | (with_reducible first | exact HI0.out | apply IsS45.alloc | apply IsS45.drewN | apply IsS45.drew | apply IsS45.set_1 | refine IsS45.far ?_ NB0_122.out _) | exact HI0.out) hb); clear hb ho5) | ((with_reducible refine gate_dst (N := 7) rfl ?_); refine Kd.R_lit Kd.string _ 9 ?hg (N := 7) ?hd (xs := ([] : List ByteArray)) (inner := []) (ok := fun _ => True) (okp := fun _ => True) ?hr ?hp (fun _ hk => hk) trivial (Below.refl _ _) (Nat.le_refl _) (by simp) ?_; (case hd => rfl); (case hg => rfl); (case hr => first | (go_simp; done) | (go_simp; rfl)); (case hp => exact (Reps.none _ _)); intro v127 w6 ho7 hb hg_ hnew_; clear hg_ hnew_; (first | rw [← Ny126.out] at ho7 | (simp only [Int.reduceToNat] at ho7; rw [← Ny126.out] at ho7)); replace HO125 := Aside0.mk (Kd.R_below (by (with_reducible repeat first | apply Kd.R_alloc | apply Kd.R_drewN | apply Kd.R_drew); exact HO125.out) hb); have HO128 := Aside0.mk (Kd.R_lower ho7 (keep_size (w := w) (g := g) (row := none) (by repeat first | (with_reducible first | exact HK.out | apply KeepBut.set_ | apply keep_drewN | apply keep_drew | apply keep_alloc | refine keep_far ?_ GW122.out _) | exact HK.out))); replace BK122 := Aside0.mk (blk_below (g := gb122) (o := .cells #[.slice none 0 0, .slice none 0 0] 26 (0, 0)) (by (with_reducible repeat first | apply blk_drewN | apply blk_drew | apply blk_alloc); exact BK122.out) hb); replace HK := Aside0.mk (KeepBut.trans (by repeat first | (with_reducible first | exact HK.out | apply KeepBut.set_ | apply keep_drewN | apply keep_drew | apply keep_alloc | refine keep_far ?_ GW122.out _) | exact HK.out) (KeepBut.of_below hb g none) (.inl rfl)); replace HB := Aside0.mk (below_step (by repeat first | (with_reducible first | exact HB.out | apply below_alloc | apply pw_below_drewN | apply below_drew1 | refine below_set ?_ (IsS45.ge HI0.out) | refine below_set ?_ GE122.out) | exact HB.out) hb); replace HI0 := Aside0.mk (IsS45.below (by repeat first | (with_reducible first | exact HI0.out | apply IsS45.alloc | apply IsS45.drewN | apply IsS45.drew | apply IsS45.set_1 | refine IsS45.far ?_ NB0_122.out _) | exact HI0.out) hb); clear hb ho7; obtain ⟨Ao8, co8, eo8⟩ := Kd.R_slice HO128.out; subst eo8; obtain ⟨Ao9, co9, eo9⟩ := Kd.R_slice HO125.out; subst eo9) | ((with_reducible refine gate_dst (N := 3) rfl ?_); refine box_event ?hg (N := 3) ?hd (cs := #[.slice none 0 0, .slice none 0 0]) (t := 26) ?hr ?_; (case hd => rfl); (case hg => rfl); (case hr => first | (go_simp; done) | (go_simp; rfl)); intro gb129 hg w10 hbox hb; replace HO125 := Aside0.mk (Kd.R_below (by (with_reducible repeat first | apply Kd.R_alloc | apply Kd.R_drewN | apply Kd.R_drew); exact HO125.out) hb); replace HO128 := Aside0.mk (Kd.R_below (by (with_reducible repeat first | apply Kd.R_alloc | apply Kd.R_drewN | apply Kd.R_drew); exact HO128.out) hb); replace HB := Aside0.mk (below_step (by repeat first | (with_reducible first | exact HB.out | apply below_alloc | apply pw_below_drewN | apply below_drew1 | refine below_set ?_ (IsS45.ge HI0.out) | refine below_set ?_ GE122.out) | exact HB.out) hb); have BK129 := Aside0.mk (hbox); have GW129 := Aside0.mk ((by rw [hg]; exact (keep_size (w := w) (g := g) (row := none) (by repeat first | (with_reducible first | exact HK.out | apply KeepBut.set_ | apply keep_drewN | apply keep_drew | apply keep_alloc | refine keep_far ?_ GW122.out _) | exact HK.out)) : w.heap.size ≤ gb129)); have GE129 := Aside0.mk ((Nat.le_trans HW0.out (by rw [hg]; exact (keep_size (w := w) (g := g) (row := none) (by repeat first | (with_reducible first | exact HK.out | apply KeepBut.set_ | apply keep_drewN | apply keep_drew | apply keep_alloc | refine keep_far ?_ GW122.out _) | exact HK.out)) : w.heap.size ≤ gb129) : w0.heap.size ≤ gb129)); replace HK := Aside0.mk (KeepBut.trans (by repeat first | (with_reducible first | exact HK.out | apply KeepBut.set_ | apply keep_drewN | apply keep_drew | apply keep_alloc | refine keep_far ?_ GW122.out _) | exact HK.out) (KeepBut.of_below hb g none) (.inl rfl)); have NB122_129 := Aside0.mk ((by rw [hg]; exact Nat.ne_of_lt (blk_lt (g := gb122) (o := .cells #[.slice none 0 0, .slice none 0 0] 26 (0, 0)) (by (with_reducible repeat first | apply blk_drewN | apply blk_drew | apply blk_alloc); exact BK122.out)) : gb122 ≠ gb129)); have NB129_122 := Aside0.mk ((by rw [hg]; exact Nat.ne_of_gt (blk_lt (g := gb122) (o := .cells #[.slice none 0 0, .slice none 0 0] 26 (0, 0)) (by (with_reducible repeat first | apply blk_drewN | apply blk_drew | apply blk_alloc); exact BK122.out)) : gb129 ≠ gb122)); replace BK122 := Aside0.mk (blk_below (g := gb122) (o := .cells #[.slice none 0 0, .slice none 0 0] 26 (0, 0)) (by (with_reducible repeat first | apply blk_drewN | apply blk_drew | apply blk_alloc); exact BK122.out) hb); have NB0_129 := Aside0.mk ((by rw [hg]; exact Nat.ne_of_lt (IsS45.lt (show IsS45 w0 _ g s0_0 s0_1 from by repeat (first | (with_reducible first | exact HI0.out | apply IsS45.alloc | apply IsS45.drewN | apply IsS45.drew | apply IsS45.set_1 | refine IsS45.far ?_ NB0_122.out _) | exact HI0.out))) : g ≠ gb129)); have NB129_0 := Aside0.mk ((by rw [hg]; exact Nat.ne_of_gt (IsS45.lt (show IsS45 w0 _ g s0_0 s0_1 from by repeat (first | (with_reducible first | exact HI0.out | apply IsS45.alloc | apply IsS45.drewN | apply IsS45.drew | apply IsS45.set_1 | refine IsS45.far ?_ NB0_122.out _) | exact HI0.out))) : gb129 ≠ g)); replace HI0 := Aside0.mk (IsS45.below (by repeat first | (with_reducible first | exact HI0.out | apply IsS45.alloc | apply IsS45.drewN | apply IsS45.drew | apply IsS45.set_1 | refine IsS45.far ?_ NB0_122.out _) | exact HI0.out) hb); clear hb hbox hg; have hnb11 := NB129_122.out; have hnc11 := NB122_129.out; have hnb12 := NB129_0.out; have hnc12 := NB0_129.out; have hcz13_0 : w10.cell? ⟨gb129, 0, none⟩ = some (.slice none 0 0) := (blk_cell BK129.out 0).trans rfl; have hcz13_1 : w10.cell? ⟨gb129, 1, none⟩ = some (.slice none 0 0) := (blk_cell BK129.out 1).trans rfl; have hfz13_0 := blk_frozen BK129.out 0; have hfz13_1 := blk_frozen BK129.out 1) | ((with_reducible refine gate_dst (N := 10) rfl ?_); refine Kd.R_lit (Kd.int .i64) _ 3 ?hg (N := 10) ?hd (xs := ([4, 3, 5, 2, 1, 0] : List Int)) (inner := [.int .i64 4, .int .i64 3, .int .i64 5, .int .i64 2, .int .i64 1, .int .i64 0]) (ok := fun _ => True) (okp := fun _ => True) ?hr ?hp (fun _ hk => hk) trivial (Below.refl _ _) (Nat.le_refl _) (by simp) ?_; (case hd => rfl); (case hg => rfl); (case hr => first | (go_simp; done) | (go_simp; rfl)); (case hp => exact (Reps.one (show Kd.M (Kd.int .i64) _ _ _ 4 [.int .i64 4] from rfl) (Reps.one (show Kd.M (Kd.int .i64) _ _ _ 3 [.int .i64 3] from rfl) (Reps.one (show Kd.M (Kd.int .i64) _ _ _ 5 [.int .i64 5] from rfl) (Reps.one (show Kd.M (Kd.int .i64) _ _ _ 2 [.int .i64 2] from rfl) (Reps.one (show Kd.M (Kd.int .i64) _ _ _ 1 [.int .i64 1] from rfl) (Reps.one (show Kd.M (Kd.int .i64) _ _ _ 0 [.int .i64 0] from rfl) (Reps.none _ _)))))))); intro v131 w14 ho15 hb hg_ hnew_; clear hg_ hnew_; (first | rw [← Ny130.out] at ho15 | (simp only [Int.reduceToNat] at ho15; rw [← Ny130.out] at ho15)); replace HO125 := Aside0.mk (Kd.R_below (by (with_reducible repeat first | apply Kd.R_alloc | apply Kd.R_drewN | apply Kd.R_drew); exact (Kd.R_mono (Kd.R_far (p := ⟨gb129, 1, none⟩) (Kd.R_far (p := ⟨gb129, 0, none⟩) (Kd.R_types HO125.out BK129.out (by decide)) (fun _ hk => hk.2) (.slice Ao9 y123.length co9)) (fun _ hk => hk.2) (.slice Ao8 y126.length co8)) (fun _ h_ => h_.1))) hb); replace HO128 := Aside0.mk (Kd.R_below (by (with_reducible repeat first | apply Kd.R_alloc | apply Kd.R_drewN | apply Kd.R_drew); exact (Kd.R_mono (Kd.R_far (p := ⟨gb129, 1, none⟩) (Kd.R_far (p := ⟨gb129, 0, none⟩) (Kd.R_types HO128.out BK129.out (by decide)) (fun _ hk => hk.2) (.slice Ao9 y123.length co9)) (fun _ hk => hk.2) (.slice Ao8 y126.length co8)) (fun _ h_ => h_.1))) hb); have HO132 := Aside0.mk (Kd.R_lower ho15 (keep_size (w := w) (g := g) (row := none) (by repeat first | (with_reducible first | exact HK.out | apply KeepBut.set_ | apply keep_drewN | apply keep_drew | apply keep_alloc | refine keep_far ?_ GW122.out _ | refine keep_far ?_ GW129.out _) | exact HK.out))); replace BK122 := Aside0.mk (blk_below (g := gb122) (o := .cells #[.slice none 0 0, .slice none 0 0] 26 (0, 0)) (by (with_reducible repeat first | apply blk_drewN | apply blk_drew | apply blk_alloc); refine blk_far ?_ NB122_129.out _; (with_reducible repeat first | apply blk_drewN | apply blk_drew | apply blk_alloc); refine blk_far ?_ NB122_129.out _; (with_reducible repeat first | apply blk_drewN | apply blk_drew | apply blk_alloc); exact BK122.out) hb); replace BK129 := Aside0.mk (blk_below (g := gb129) (o := .cells #[.slice Ao9 y123.length co9, .slice Ao8 y126.length co8] 26 (0, 0)) (by (with_reducible repeat first | apply blk_drewN | apply blk_drew | apply blk_alloc); refine blk_put (cs := #[.slice Ao9 y123.length co9, .slice none 0 0]) ?_ 1 _ rfl; (with_reducible repeat first | apply blk_drewN | apply blk_drew | apply blk_alloc); refine blk_put (cs := #[.slice none 0 0, .slice none 0 0]) ?_ 0 _ rfl; (with_reducible repeat first | apply blk_drewN | apply blk_drew | apply blk_alloc); exact BK129.out) hb); replace HK := Aside0.mk (KeepBut.trans (by repeat first | (with_reducible first | exact HK.out | apply KeepBut.set_ | apply keep_drewN | apply keep_drew | apply keep_alloc | refine keep_far ?_ GW122.out _ | refine keep_far ?_ GW129.out _) | exact HK.out) (KeepBut.of_below hb g none) (.inl rfl)); replace HB := Aside0.mk (below_step (by repeat first | (with_reducible first | exact HB.out | apply below_alloc | apply pw_below_drewN | apply below_drew1 | refine below_set ?_ (IsS45.ge HI0.out) | refine below_set ?_ GE122.out | refine below_set ?_ GE129.out) | exact HB.out) hb); replace HI0 := Aside0.mk (IsS45.below (show IsS45 w0 ((w10.setCell ⟨gb129, 0, none⟩ (.slice Ao9 y123.length co9)).setCell ⟨gb129, 1, none⟩ (.slice Ao8 y126.length co8)) g s0_0 s0_1 from by repeat (first | (with_reducible first | exact HI0.out | apply IsS45.alloc | apply IsS45.drewN | apply IsS45.drew | apply IsS45.set_1 | refine IsS45.far ?_ NB0_122.out _ | refine IsS45.far ?_ NB0_129.out _) | exact HI0.out)) hb); clear hb ho15; obtain ⟨Ao16, co16, eo16⟩ := Kd.R_slice HO132.out; subst eo16) | ((with_reducible refine gate_callee (f := 17) rfl ?_); refine goesL_ (some 11) rfl rfl Tryd.func17 (by kernel_rfl) rfl #[.pointer (some ⟨g, 0, none⟩), .slice Ao16 y130.length co16] rfl (by (try simp only [List.map_toArray, List.map_cons, List.map_nil]); first | done | rfl) ?_; (with_reducible refine (spec_reader_one.calls k g s0_0 s0_1 _ _ y130 t133 t134 w0 _ ?side1 ?side2 ?side3 ?side4 ?side5 A2.out).mono ?_); (case side1 => repeat (first | (with_reducible first | exact HI0.out | apply IsS45.alloc | apply IsS45.drewN | apply IsS45.drew | apply IsS45.set_1 | refine IsS45.far ?_ NB0_122.out _ | refine IsS45.far ?_ NB0_129.out _) | exact HI0.out)); (case side2 => repeat (first | (with_reducible first | exact HB.out | apply below_alloc | apply pw_below_drewN | apply below_drew1 | refine below_set ?_ (IsS45.ge HI0.out) | refine below_set ?_ GE122.out | refine below_set ?_ GE129.out) | exact HB.out)); (case side3 => repeat (first | exact (Kd.R_reads' HO132.out).2.2 | with_reducible first | apply Kd.C_alloc | apply Kd.C_drewN | apply Kd.C_drew)); (case side4 => exact (Kd.R_reads' HO132.out).2.1); (case side5 => exact far_slice (IsS45.own_ne HI0.out HO132.out (by decide))); rintro e w17 ⟨rfl, hi, hb, hk⟩; refine ⟨_, rfl, ?_⟩; replace BK122 := Aside0.mk (KeepBut.blk hk (g' := gb122) (o := .cells #[.slice none 0 0, .slice none 0 0] 26 (0, 0)) (by (with_reducible repeat first | apply blk_drewN | apply blk_drew | apply blk_alloc); exact BK122.out) NB122_0.out (by simp)); replace HO125 := Aside0.mk (Kd.R_mono (Kd.R_keep (IsS45.apart (show IsS45 w0 _ g s0_0 s0_1 from by repeat (first | (with_reducible first | exact HI0.out | apply IsS45.alloc | apply IsS45.drewN | apply IsS45.drew | apply IsS45.set_1 | refine IsS45.far ?_ NB0_122.out _ | refine IsS45.far ?_ NB0_129.out _) | exact HI0.out)) (by (with_reducible repeat first | apply Kd.R_alloc | apply Kd.R_drewN | apply Kd.R_drew); exact HO125.out) (by decide)) hk (fun _ h => h.2)) (fun _ h => h.1)); replace HO128 := Aside0.mk (Kd.R_mono (Kd.R_keep (IsS45.apart (show IsS45 w0 _ g s0_0 s0_1 from by repeat (first | (with_reducible first | exact HI0.out | apply IsS45.alloc | apply IsS45.drewN | apply IsS45.drew | apply IsS45.set_1 | refine IsS45.far ?_ NB0_122.out _ | refine IsS45.far ?_ NB0_129.out _) | exact HI0.out)) (by (with_reducible repeat first | apply Kd.R_alloc | apply Kd.R_drewN | apply Kd.R_drew); exact HO128.out) (by decide)) hk (fun _ h => h.2)) (fun _ h => h.1)); replace BK129 := Aside0.mk (KeepBut.blk hk (g' := gb129) (o := .cells #[.slice Ao9 y123.length co9, .slice Ao8 y126.length co8] 26 (0, 0)) (by (with_reducible repeat first | apply blk_drewN | apply blk_drew | apply blk_alloc); exact BK129.out) NB129_0.out (by simp)); replace HO132 := Aside0.mk (Kd.R_mono (Kd.R_keep (IsS45.apart (show IsS45 w0 _ g s0_0 s0_1 from by repeat (first | (with_reducible first | exact HI0.out | apply IsS45.alloc | apply IsS45.drewN | apply IsS45.drew | apply IsS45.set_1 | refine IsS45.far ?_ NB0_122.out _ | refine IsS45.far ?_ NB0_129.out _) | exact HI0.out)) (by (with_reducible repeat first | apply Kd.R_alloc | apply Kd.R_drewN | apply Kd.R_drew); exact HO132.out) (by decide)) hk (fun _ h => h.2)) (fun _ h => h.1)); replace HK := Aside0.mk (KeepBut.trans (by repeat first | (with_reducible first | exact HK.out | apply KeepBut.set_ | apply keep_drewN | apply keep_drew | apply keep_alloc | refine keep_far ?_ GW122.out _ | refine keep_far ?_ GW129.out _) | exact HK.out) hk (.inl rfl)); replace HB := Aside0.mk (hb); replace HI0 := Aside0.mk (hi); (try clear hb); (try clear hk); (try clear hi)))
 go_loopg [4] k (fun kq v4 w' => ∃ (x4_1 : Int) (x1001_1 : Int) (x130000_1 : List (S30)) (u130000 : Value), v4 = .int .i64 x4_1 ∧ Aside0 (spec_someReport.l0 kq x4_1 s0_0 x1001_1 x130000_1 y126 = some (r1, r2, r3)) ∧ Aside0 (kq ≤ k) ∧ Aside0 (Kd.R k30 30 w' w.heap.size (fun _ => True) u130000 x130000_1) ∧ Aside0 (Kd.R Kd.string 9 w' w.heap.size (fun _ => True) (.slice Ao8 y126.length co8) y126) ∧ Aside0 (w'.heap[gb122]? = some (.cells #[(.slice none 0 0), (.slice none 0 0)] 26 (0, 0))) ∧ Aside0 (w'.heap[gb129]? = some (.cells #[u130000, (.slice Ao8 y126.length co8)] 26 (0, 0))) ∧ Aside0 (IsS45 w0 w' g s0_0 x1001_1) ∧ Aside0 (KeepBut w w' g none) ∧ Aside0 (Below w0.heap.size w0 w'))
 case atStart => exact ⟨(t133), (t134), (y123), (.slice Ao9 y123.length co9), (by first | rfl | (simp; done) | (simp [*]; done)), H', ⟨Nat.le_refl _⟩, ⟨by (with_reducible repeat first | apply Kd.R_alloc | apply Kd.R_drewN | apply Kd.R_drew); exact HO125.out⟩, ⟨by (with_reducible repeat first | apply Kd.R_alloc | apply Kd.R_drewN | apply Kd.R_drew); exact HO128.out⟩, ⟨by (with_reducible repeat first | apply blk_drewN | apply blk_drew | apply blk_alloc); exact BK122.out⟩, ⟨by (with_reducible repeat first | apply blk_drewN | apply blk_drew | apply blk_alloc); exact BK129.out⟩, ⟨by repeat (first | (with_reducible first | exact HI0.out | apply IsS45.alloc | apply IsS45.drewN | apply IsS45.drew | apply IsS45.set_1 | refine IsS45.far ?_ NB0_122.out _ | refine IsS45.far ?_ NB0_129.out _) | exact HI0.out)⟩, ⟨by repeat (first | (with_reducible first | exact HK.out | apply KeepBut.set_ | apply keep_drewN | apply keep_drew | apply keep_alloc | refine keep_far ?_ GW122.out _ | refine keep_far ?_ GW129.out _) | exact HK.out)⟩, ⟨by repeat (first | (with_reducible first | exact HB.out | apply below_alloc | apply pw_below_drewN | apply below_drew1 | refine below_set ?_ (IsS45.ge HI0.out) | refine below_set ?_ GE122.out | refine below_set ?_ GE129.out) | exact HB.out)⟩⟩
 case round =>
  clear H'; try clear c1; try clear p2; try clear c7; try clear c11; try clear c12; try clear c17; try clear hcz13_0; try clear hcz13_1; try clear hfz13_0; try clear hfz13_1
  obtain ⟨x4_1, x1001_1, x130000_1, u130000, rfl, HA, HK1, HO_130000, HO_130001, BK122, BK129, HI0, HK, HB⟩ := hrel
  cases gk with
  | zero => exact absurd HA.out (by simp [spec_someReport.l0])
  | succ k1 =>
   have H := HA.out; clear HA
   simp only [spec_someReport.l0] at H
   by_cases c18 : x4_1 > 0
   ·rw [if_pos c18] at H
    have c18b0 : decide (0 < x4_1) = true := decide_eq_true c18
    clear c18
    replace H := Option.bind_eq_some_iff.mp H
    obtain ⟨⟨t135, t136⟩, A190, H⟩ := H
    replace H : ((spec_reader_one.f k1 s0_0 t136 (([0, 1, 2, 3, 4, 5, 0, 1] : List Int))).bind fun bt140 => (if x130000_1.length < 5864062014805 then (spec_someReport.l0 k1 (wrap64 (x4_1 - 1)) s0_0 bt140.2 (x130000_1 ++ [(⟨t135, bt140.1⟩ : S30)]) y126) else (none))) = some (r1, r2, r3) := H
    have A19 := Aside0.mk A190; clear A190
    obtain ⟨y137, hy137⟩ : ∃ y_ : List Int, y_ = (([0, 1, 2, 3, 4, 5, 0, 1] : List Int)) := ⟨_, rfl⟩
    replace H : ((spec_reader_one.f k1 s0_0 t136 y137).bind fun bt140 => (if x130000_1.length < 5864062014805 then (spec_someReport.l0 k1 (wrap64 (x4_1 - 1)) s0_0 bt140.2 (x130000_1 ++ [(⟨t135, bt140.1⟩ : S30)]) y126) else (none))) = some (r1, r2, r3) := by first | (rw [hy137]; with_reducible exact H) | (have H2_ := (Option.bind_some _ _).symm.trans H; rw [hy137]; with_reducible exact H2_) | (have H2_ := (Option.bind_some _ _).symm.trans H; with_reducible exact H2_) | with_reducible exact H | (rw [hy137]; exact H) | exact H
    have Ny137 := Aside0.mk hy137; clear hy137
    replace H := Option.bind_eq_some_iff.mp H
    obtain ⟨⟨t140, t141⟩, A200, H⟩ := H
    replace H : (if x130000_1.length < 5864062014805 then (spec_someReport.l0 k1 (wrap64 (x4_1 - 1)) s0_0 t141 (x130000_1 ++ [(⟨t135, t140⟩ : S30)]) y126) else (none)) = some (r1, r2, r3) := H
    have A20 := Aside0.mk A200; clear A200
    by_cases c21 : x130000_1.length < 5864062014805
    ·rw [if_pos c21] at H
     have LMc21 := Aside0.mk c21; clear c21
     obtain ⟨y142, hy142⟩ : ∃ y_ : List (S30), y_ = (x130000_1 ++ [(⟨t135, t140⟩ : S30)]) := ⟨_, rfl⟩
     replace H : (spec_someReport.l0 k1 (wrap64 (x4_1 - 1)) s0_0 t141 y142 y126) = some (r1, r2, r3) := by first | (rw [hy142]; with_reducible exact H) | (have H2_ := (Option.bind_some _ _).symm.trans H; rw [hy142]; with_reducible exact H2_) | (have H2_ := (Option.bind_some _ _).symm.trans H; with_reducible exact H2_) | with_reducible exact H | (rw [hy142]; exact H) | exact H
     have Ny142 := Aside0.mk hy142; clear hy142; have H' := Aside0.mk H; clear H
     obtain ⟨Ao22, co22, eo22⟩ := Kd.R_slice HO_130000.out
     subst eo22; try go_wp2; replace HO_130000 := Aside0.mk (Kd.R_drew HO_130000.out); replace HO_130001 := Aside0.mk (Kd.R_drew HO_130001.out); replace BK122 := Aside0.mk (blk_drew BK122.out); replace BK129 := Aside0.mk (blk_drew BK129.out); replace HI0 := Aside0.mk (IsS45.drew HI0.out); replace HK := Aside0.mk (keep_drew HK.out); replace HB := Aside0.mk (below_drew1 HB.out)
     refine start_ (n := 12) (S := fun w' => w'.cell? ⟨gb129, 0, none⟩ = some (.slice Ao22 x130000_1.length co22) ∧ w'.cell? ⟨gb129, 1, none⟩ = some (.slice Ao8 y126.length co8)) (ds := [11]) #[ff,ff,ff,ff,ff,ff,ff,ff,ff,ff,ff,ff] (by kernel_rfl) rfl rfl ⟨(blk_cell BK129.out 0).trans rfl, (blk_cell BK129.out 1).trans rfl⟩ (fun hHeld => ?_); refine with_tabW spec_someReport.tab5 spec_someReport.bits5 (fun HT_ HW_ => ?_)
     generalize wr.drew = w23 at HO_130000 HO_130001 BK122 BK129 HI0 HK HB hHeld ⊢
     refine pu_ 0 (some 16) (v := ?_) (a' := ?_) #[tt,ff,ff,ff,ff,ff,ff,ff,ff,ff,ff,ff] HT_.out rfl rfl (by kernel_rfl) (fun _ _ _ h => h) (Or.inl ⟨by rfl, ?_⟩) ?_ ?_
     rotate_left
     ·intro w'
      go_simp
      with_reducible rfl
     rotate_left
     ·simp only [Act.put, ps_]
      rfl
     refine pu_ 2 (some 18) (v := ?_) (a' := ?_) #[tt,ff,tt,ff,ff,ff,ff,ff,ff,ff,ff,ff] HT_.out rfl rfl (by kernel_rfl) (fun _ _ _ h => h) (Or.inl ⟨by rfl, ?_⟩) ?_ ?_
     rotate_left
     ·intro w'
      go_simp
      with_reducible rfl
     rotate_left
     ·simp only [Act.put, ps_]
      rfl
     refine pu_ 4 (some 20) (v := ?_) (a' := ?_) #[tt,ff,tt,ff,tt,ff,ff,ff,ff,ff,ff,ff] HT_.out rfl rfl (by kernel_rfl) (fun _ _ _ h => h) (Or.inl ⟨by rfl, ?_⟩) ?_ ?_
     rotate_left
     ·intro w'
      go_simp
      with_reducible rfl
     rotate_left
     ·simp only [Act.put, ps_]
      rfl
     refine take_ (i := 1) (N := some 17) (v := ?_) (a' := ?_) #[tt,tt,tt,ff,tt,ff,ff,ff,ff,ff,ff,ff] rfl rfl (take_ofW HT_.out HW_.out (by kernel_rfl)) (fun _ _ _ h => h) (Or.inl ⟨by rfl, ?_⟩) hHeld ?_ ?_
     rotate_left
     ·rintro w' ⟨s0, s1⟩
      go_simp
      with_reducible rfl
     rotate_left
     ·simp only [Act.put, ps_]
      rfl
     refine join_ (σ := Value) 6 #[tt,tt,tt,tt,tt,tt,ff,ff,ff,ff,ff,ff] (fun s_ => [(19, .string t135), (21, s_)]) (fun s_ w' => (w'.cell? ⟨gb129, 0, none⟩ = some (.slice Ao22 x130000_1.length co22) ∧ w'.cell? ⟨gb129, 1, none⟩ = some (.slice Ao8 y126.length co8)) ∧ (Kd.R (Kd.int .i64) 3 w' w.heap.size (fun _ => True) s_ y137) ∧ (Kd.R k30 30 w' w.heap.size (fun _ => True) (.slice Ao22 x130000_1.length co22) x130000_1) ∧ (Kd.R Kd.string 9 w' w.heap.size (fun _ => True) (.slice Ao8 y126.length co8) y126) ∧ (w'.heap[gb122]? = some (.cells #[.slice none 0 0, .slice none 0 0] 26 (0, 0))) ∧ (w'.heap[gb129]? = some (.cells #[.slice Ao22 x130000_1.length co22, .slice Ao8 y126.length co8] 26 (0, 0))) ∧ (IsS45 w0 w' g s0_0 t136) ∧ (KeepBut w w' g none) ∧ (Below w0.heap.size w0 w')) ?_ ?_
     rotate_left
     ·intro hCont
      refine two_ (i := 3) (j := 5) (Ni := some 19) (Nj := some 21) #[tt,tt,tt,tt,tt,ff,ff,ff,ff,ff,ff,ff] #[tt,tt,tt,ff,tt,tt,ff,ff,ff,ff,ff,ff] rfl rfl rfl rfl (two_of HT_.out (by kernel_rfl)) (by decide) (by decide) (fun K hK => ?_) (fun K hK => ?_)
      ·skip
       refine goes_ Tryd.func18 (by kernel_rfl) rfl #[.pointer (some ⟨g, 0, none⟩)] (by rfl) rfl rfl (by (try simp only [List.map_toArray, List.map_cons, List.map_nil]); first | done | rfl) ?_
       with_reducible refine (spec_anId.calls k1 g s0_0 x1001_1 t135 t136 w0 _ ?side1 ?side2 A19.out).mono ?_
       (case side1 => repeat (first | (with_reducible first | exact HI0.out | apply IsS45.alloc | apply IsS45.drewN | apply IsS45.drew | apply IsS45.set_1 | refine IsS45.far ?_ NB0_122.out _ | refine IsS45.far ?_ NB0_129.out _) | exact HI0.out))
       (case side2 => repeat (first | (with_reducible first | exact HB.out | apply below_alloc | apply pw_below_drewN | apply below_drew1 | refine below_set ?_ (IsS45.ge HI0.out) | refine below_set ?_ GE122.out | refine below_set ?_ GE129.out) | exact HB.out))
       rintro e w24 ⟨rfl, hi, hb, hk⟩
       refine ⟨_, rfl, ?_⟩
       have n0_ := Aside0.mk (Kd.R_mono (Kd.R_keep (IsS45.apart (show IsS45 w0 _ g s0_0 x1001_1 from by repeat (first | (with_reducible first | exact HI0.out | apply IsS45.alloc | apply IsS45.drewN | apply IsS45.drew | apply IsS45.set_1 | refine IsS45.far ?_ NB0_122.out _ | refine IsS45.far ?_ NB0_129.out _) | exact HI0.out)) (by (with_reducible repeat first | apply Kd.R_alloc | apply Kd.R_drewN | apply Kd.R_drew); exact HO_130000.out) (by decide)) hk (fun _ h => h.2)) (fun _ h => h.1))
       have n1_ := Aside0.mk (Kd.R_mono (Kd.R_keep (IsS45.apart (show IsS45 w0 _ g s0_0 x1001_1 from by repeat (first | (with_reducible first | exact HI0.out | apply IsS45.alloc | apply IsS45.drewN | apply IsS45.drew | apply IsS45.set_1 | refine IsS45.far ?_ NB0_122.out _ | refine IsS45.far ?_ NB0_129.out _) | exact HI0.out)) (by (with_reducible repeat first | apply Kd.R_alloc | apply Kd.R_drewN | apply Kd.R_drew); exact HO_130001.out) (by decide)) hk (fun _ h => h.2)) (fun _ h => h.1))
       have n2_ := Aside0.mk (KeepBut.blk hk (g' := gb122) (o := .cells #[.slice none 0 0, .slice none 0 0] 26 (0, 0)) (by (with_reducible repeat first | apply blk_drewN | apply blk_drew | apply blk_alloc); exact BK122.out) NB122_0.out (by simp))
       have n3_ := Aside0.mk (KeepBut.blk hk (g' := gb129) (o := .cells #[.slice Ao22 x130000_1.length co22, .slice Ao8 y126.length co8] 26 (0, 0)) (by (with_reducible repeat first | apply blk_drewN | apply blk_drew | apply blk_alloc); exact BK129.out) NB129_0.out (by simp))
       have n4_ := Aside0.mk (KeepBut.trans (by repeat first | (with_reducible first | exact HK.out | apply KeepBut.set_ | apply keep_drewN | apply keep_drew | apply keep_alloc | refine keep_far ?_ GW122.out _ | refine keep_far ?_ GW129.out _) | exact HK.out) hk (.inl rfl)); have n5_ := Aside0.mk (hb); have n6_ := Aside0.mk (hi); clear HO_130000 HO_130001 BK122 BK129 HK HB HI0; have HO_130000 := n0_; have HO_130001 := n1_; have BK122 := n2_; have BK129 := n3_; have HK := n4_; have HB := n5_; have HI0 := n6_; clear n0_ n1_ n2_ n3_ n4_ n5_ n6_
       (try clear hb)
       (try clear hb2)
       (try clear hk)
       (try clear hi)
       refine hK.out _ _ ⟨(blk_cell BK129.out 0).trans rfl, (blk_cell BK129.out 1).trans rfl⟩ (fun hHeld => ?_)
       clear hK K
       refine norm_ (a' := ?_) ?_ ?_
       rotate_left
       ·show Act.put _ (some 19) _ = _
        simp only [Act.put, ps_]
        rfl
       refine one_ (i := 5) (N := some 21) #[tt,tt,tt,tt,tt,tt,ff,ff,ff,ff,ff,ff] rfl rfl (one_of HT_.out (by kernel_rfl)) (by decide) (fun K hK => ?_)
       refine Kd.R_lit_step (Kd.int .i64) _ 3 ?hg (N := 21) ?hd (xs := ([0, 1, 2, 3, 4, 5, 0, 1] : List Int)) (inner := [.int .i64 0, .int .i64 1, .int .i64 2, .int .i64 3, .int .i64 4, .int .i64 5, .int .i64 0, .int .i64 1]) (ok := fun _ => True) (okp := fun _ => True) ?hr ?hp (fun _ hk => hk) trivial (Below.refl _ _) (Nat.le_refl _) (by simp) ?_; (case hd => rfl); (case hg => rfl); (case hr => first | (go_simp; done) | (go_simp; rfl)); (case hp => exact (Reps.one (show Kd.M (Kd.int .i64) _ _ _ 0 [.int .i64 0] from rfl) (Reps.one (show Kd.M (Kd.int .i64) _ _ _ 1 [.int .i64 1] from rfl) (Reps.one (show Kd.M (Kd.int .i64) _ _ _ 2 [.int .i64 2] from rfl) (Reps.one (show Kd.M (Kd.int .i64) _ _ _ 3 [.int .i64 3] from rfl) (Reps.one (show Kd.M (Kd.int .i64) _ _ _ 4 [.int .i64 4] from rfl) (Reps.one (show Kd.M (Kd.int .i64) _ _ _ 5 [.int .i64 5] from rfl) (Reps.one (show Kd.M (Kd.int .i64) _ _ _ 0 [.int .i64 0] from rfl) (Reps.one (show Kd.M (Kd.int .i64) _ _ _ 1 [.int .i64 1] from rfl) (Reps.none _ _))))))))))
       intro v138 w25 ho26 hb hg_ hnew_
       clear hg_ hnew_
       (first | rw [← Ny137.out] at ho26 | (simp only [Int.reduceToNat] at ho26; rw [← Ny137.out] at ho26))
       have n0_ := Aside0.mk (Kd.R_below (by (with_reducible repeat first | apply Kd.R_alloc | apply Kd.R_drewN | apply Kd.R_drew); exact HO_130000.out) hb)
       have n1_ := Aside0.mk (Kd.R_below (by (with_reducible repeat first | apply Kd.R_alloc | apply Kd.R_drewN | apply Kd.R_drew); exact HO_130001.out) hb)
       have n2_ := Aside0.mk (Kd.R_lower ho26 (keep_size (w := w) (g := g) (row := none) (by repeat first | (with_reducible first | exact HK.out | apply KeepBut.set_ | apply keep_drewN | apply keep_drew | apply keep_alloc | refine keep_far ?_ GW122.out _ | refine keep_far ?_ GW129.out _) | exact HK.out)))
       have n3_ := Aside0.mk (blk_below (g := gb122) (o := .cells #[.slice none 0 0, .slice none 0 0] 26 (0, 0)) (by (with_reducible repeat first | apply blk_drewN | apply blk_drew | apply blk_alloc); exact BK122.out) hb)
       have n4_ := Aside0.mk (blk_below (g := gb129) (o := .cells #[.slice Ao22 x130000_1.length co22, .slice Ao8 y126.length co8] 26 (0, 0)) (by (with_reducible repeat first | apply blk_drewN | apply blk_drew | apply blk_alloc); exact BK129.out) hb)
       have n5_ := Aside0.mk (IsS45.below (by repeat first | (with_reducible first | exact HI0.out | apply IsS45.alloc | apply IsS45.drewN | apply IsS45.drew | apply IsS45.set_1 | refine IsS45.far ?_ NB0_122.out _ | refine IsS45.far ?_ NB0_129.out _) | exact HI0.out) hb); have n6_ := Aside0.mk (KeepBut.trans (by repeat first | (with_reducible first | exact HK.out | apply KeepBut.set_ | apply keep_drewN | apply keep_drew | apply keep_alloc | refine keep_far ?_ GW122.out _ | refine keep_far ?_ GW129.out _) | exact HK.out) (KeepBut.of_below hb g none) (.inl rfl)); have n7_ := Aside0.mk (below_step (by repeat first | (with_reducible first | exact HB.out | apply below_alloc | apply pw_below_drewN | apply below_drew1 | refine below_set ?_ (IsS45.ge HI0.out) | refine below_set ?_ GE122.out | refine below_set ?_ GE129.out) | exact HB.out) hb); clear HO_130000 HO_130001 BK122 BK129 HI0 HK HB; have HO_130000 := n0_; have HO_130001 := n1_; have HO139 := n2_; have BK122 := n3_; have BK129 := n4_; have HI0 := n5_; have HK := n6_; have HB := n7_; clear n0_ n1_ n2_ n3_ n4_ n5_ n6_ n7_ hb ho26
       refine hK.out _ _ ⟨(blk_cell BK129.out 0).trans rfl, (blk_cell BK129.out 1).trans rfl⟩ (fun hHeld => ?_)
       clear hK K
       refine norm_ (a' := ?_) ?_ ?_
       rotate_left
       ·show Act.put _ (some 21) _ = _
        simp only [Act.put, ps_]
        rfl
       exact norm_ (by simp only [putAll, Act.put, List.setIfInBounds_toArray, List.set_cons_zero, List.set_cons_succ]) (hCont (v138) _ ⟨hHeld, (by (with_reducible repeat first | apply Kd.R_alloc | apply Kd.R_drewN | apply Kd.R_drew); exact HO139.out), (by (with_reducible repeat first | apply Kd.R_alloc | apply Kd.R_drewN | apply Kd.R_drew); exact HO_130000.out), (by (with_reducible repeat first | apply Kd.R_alloc | apply Kd.R_drewN | apply Kd.R_drew); exact HO_130001.out), (by (with_reducible repeat first | apply blk_drewN | apply blk_drew | apply blk_alloc); exact BK122.out), (by (with_reducible repeat first | apply blk_drewN | apply blk_drew | apply blk_alloc); exact BK129.out), (by repeat first | (with_reducible first | exact HI0.out | apply IsS45.alloc | apply IsS45.drewN | apply IsS45.drew | apply IsS45.set_1 | refine IsS45.far ?_ NB0_122.out _ | refine IsS45.far ?_ NB0_129.out _) | exact HI0.out), (by repeat first | (with_reducible first | exact HK.out | apply KeepBut.set_ | apply keep_drewN | apply keep_drew | apply keep_alloc | refine keep_far ?_ GW122.out _ | refine keep_far ?_ GW129.out _) | exact HK.out), (by repeat first | (with_reducible first | exact HB.out | apply below_alloc | apply pw_below_drewN | apply below_drew1 | refine below_set ?_ (IsS45.ge HI0.out) | refine below_set ?_ GE122.out | refine below_set ?_ GE129.out) | exact HB.out)⟩)
      ·skip
       refine Kd.R_lit_step (Kd.int .i64) _ 3 ?hg (N := 21) ?hd (xs := ([0, 1, 2, 3, 4, 5, 0, 1] : List Int)) (inner := [.int .i64 0, .int .i64 1, .int .i64 2, .int .i64 3, .int .i64 4, .int .i64 5, .int .i64 0, .int .i64 1]) (ok := fun _ => True) (okp := fun _ => True) ?hr ?hp (fun _ hk => hk) trivial (Below.refl _ _) (Nat.le_refl _) (by simp) ?_; (case hd => rfl); (case hg => rfl); (case hr => first | (go_simp; done) | (go_simp; rfl)); (case hp => exact (Reps.one (show Kd.M (Kd.int .i64) _ _ _ 0 [.int .i64 0] from rfl) (Reps.one (show Kd.M (Kd.int .i64) _ _ _ 1 [.int .i64 1] from rfl) (Reps.one (show Kd.M (Kd.int .i64) _ _ _ 2 [.int .i64 2] from rfl) (Reps.one (show Kd.M (Kd.int .i64) _ _ _ 3 [.int .i64 3] from rfl) (Reps.one (show Kd.M (Kd.int .i64) _ _ _ 4 [.int .i64 4] from rfl) (Reps.one (show Kd.M (Kd.int .i64) _ _ _ 5 [.int .i64 5] from rfl) (Reps.one (show Kd.M (Kd.int .i64) _ _ _ 0 [.int .i64 0] from rfl) (Reps.one (show Kd.M (Kd.int .i64) _ _ _ 1 [.int .i64 1] from rfl) (Reps.none _ _))))))))))
       intro v138 w24 ho25 hb hg_ hnew_
       clear hg_ hnew_
       (first | rw [← Ny137.out] at ho25 | (simp only [Int.reduceToNat] at ho25; rw [← Ny137.out] at ho25))
       have n0_ := Aside0.mk (Kd.R_below (by (with_reducible repeat first | apply Kd.R_alloc | apply Kd.R_drewN | apply Kd.R_drew); exact HO_130000.out) hb)
       have n1_ := Aside0.mk (Kd.R_below (by (with_reducible repeat first | apply Kd.R_alloc | apply Kd.R_drewN | apply Kd.R_drew); exact HO_130001.out) hb)
       have n2_ := Aside0.mk (Kd.R_lower ho25 (keep_size (w := w) (g := g) (row := none) (by repeat first | (with_reducible first | exact HK.out | apply KeepBut.set_ | apply keep_drewN | apply keep_drew | apply keep_alloc | refine keep_far ?_ GW122.out _ | refine keep_far ?_ GW129.out _) | exact HK.out)))
       have n3_ := Aside0.mk (blk_below (g := gb122) (o := .cells #[.slice none 0 0, .slice none 0 0] 26 (0, 0)) (by (with_reducible repeat first | apply blk_drewN | apply blk_drew | apply blk_alloc); exact BK122.out) hb)
       have n4_ := Aside0.mk (blk_below (g := gb129) (o := .cells #[.slice Ao22 x130000_1.length co22, .slice Ao8 y126.length co8] 26 (0, 0)) (by (with_reducible repeat first | apply blk_drewN | apply blk_drew | apply blk_alloc); exact BK129.out) hb)
       have n5_ := Aside0.mk (IsS45.below (by repeat first | (with_reducible first | exact HI0.out | apply IsS45.alloc | apply IsS45.drewN | apply IsS45.drew | apply IsS45.set_1 | refine IsS45.far ?_ NB0_122.out _ | refine IsS45.far ?_ NB0_129.out _) | exact HI0.out) hb); have n6_ := Aside0.mk (KeepBut.trans (by repeat first | (with_reducible first | exact HK.out | apply KeepBut.set_ | apply keep_drewN | apply keep_drew | apply keep_alloc | refine keep_far ?_ GW122.out _ | refine keep_far ?_ GW129.out _) | exact HK.out) (KeepBut.of_below hb g none) (.inl rfl)); have n7_ := Aside0.mk (below_step (by repeat first | (with_reducible first | exact HB.out | apply below_alloc | apply pw_below_drewN | apply below_drew1 | refine below_set ?_ (IsS45.ge HI0.out) | refine below_set ?_ GE122.out | refine below_set ?_ GE129.out) | exact HB.out) hb); clear HO_130000 HO_130001 BK122 BK129 HI0 HK HB; have HO_130000 := n0_; have HO_130001 := n1_; have HO139 := n2_; have BK122 := n3_; have BK129 := n4_; have HI0 := n5_; have HK := n6_; have HB := n7_; clear n0_ n1_ n2_ n3_ n4_ n5_ n6_ n7_ hb ho25
       refine hK.out _ _ ⟨(blk_cell BK129.out 0).trans rfl, (blk_cell BK129.out 1).trans rfl⟩ (fun hHeld => ?_)
       clear hK K
       refine norm_ (a' := ?_) ?_ ?_
       rotate_left
       ·show Act.put _ (some 21) _ = _
        simp only [Act.put, ps_]
        rfl
       refine one_ (i := 3) (N := some 19) #[tt,tt,tt,tt,tt,tt,ff,ff,ff,ff,ff,ff] rfl rfl (one_of HT_.out (by kernel_rfl)) (by decide) (fun K hK => ?_)
       refine goes_ Tryd.func18 (by kernel_rfl) rfl #[.pointer (some ⟨g, 0, none⟩)] (by rfl) rfl rfl (by (try simp only [List.map_toArray, List.map_cons, List.map_nil]); first | done | rfl) ?_
       with_reducible refine (spec_anId.calls k1 g s0_0 x1001_1 t135 t136 w0 _ ?side1 ?side2 A19.out).mono ?_
       (case side1 => repeat (first | (with_reducible first | exact HI0.out | apply IsS45.alloc | apply IsS45.drewN | apply IsS45.drew | apply IsS45.set_1 | refine IsS45.far ?_ NB0_122.out _ | refine IsS45.far ?_ NB0_129.out _) | exact HI0.out))
       (case side2 => repeat (first | (with_reducible first | exact HB.out | apply below_alloc | apply pw_below_drewN | apply below_drew1 | refine below_set ?_ (IsS45.ge HI0.out) | refine below_set ?_ GE122.out | refine below_set ?_ GE129.out) | exact HB.out))
       rintro e w26 ⟨rfl, hi, hb, hk⟩
       refine ⟨_, rfl, ?_⟩
       have n0_ := Aside0.mk (Kd.R_mono (Kd.R_keep (IsS45.apart (show IsS45 w0 _ g s0_0 x1001_1 from by repeat (first | (with_reducible first | exact HI0.out | apply IsS45.alloc | apply IsS45.drewN | apply IsS45.drew | apply IsS45.set_1 | refine IsS45.far ?_ NB0_122.out _ | refine IsS45.far ?_ NB0_129.out _) | exact HI0.out)) (by (with_reducible repeat first | apply Kd.R_alloc | apply Kd.R_drewN | apply Kd.R_drew); exact HO_130000.out) (by decide)) hk (fun _ h => h.2)) (fun _ h => h.1))
       have n1_ := Aside0.mk (Kd.R_mono (Kd.R_keep (IsS45.apart (show IsS45 w0 _ g s0_0 x1001_1 from by repeat (first | (with_reducible first | exact HI0.out | apply IsS45.alloc | apply IsS45.drewN | apply IsS45.drew | apply IsS45.set_1 | refine IsS45.far ?_ NB0_122.out _ | refine IsS45.far ?_ NB0_129.out _) | exact HI0.out)) (by (with_reducible repeat first | apply Kd.R_alloc | apply Kd.R_drewN | apply Kd.R_drew); exact HO_130001.out) (by decide)) hk (fun _ h => h.2)) (fun _ h => h.1))
       have n2_ := Aside0.mk (KeepBut.blk hk (g' := gb122) (o := .cells #[.slice none 0 0, .slice none 0 0] 26 (0, 0)) (by (with_reducible repeat first | apply blk_drewN | apply blk_drew | apply blk_alloc); exact BK122.out) NB122_0.out (by simp))
       have n3_ := Aside0.mk (KeepBut.blk hk (g' := gb129) (o := .cells #[.slice Ao22 x130000_1.length co22, .slice Ao8 y126.length co8] 26 (0, 0)) (by (with_reducible repeat first | apply blk_drewN | apply blk_drew | apply blk_alloc); exact BK129.out) NB129_0.out (by simp))
       have n4_ := Aside0.mk (Kd.R_mono (Kd.R_keep (IsS45.apart (show IsS45 w0 _ g s0_0 x1001_1 from by repeat (first | (with_reducible first | exact HI0.out | apply IsS45.alloc | apply IsS45.drewN | apply IsS45.drew | apply IsS45.set_1 | refine IsS45.far ?_ NB0_122.out _ | refine IsS45.far ?_ NB0_129.out _) | exact HI0.out)) (by (with_reducible repeat first | apply Kd.R_alloc | apply Kd.R_drewN | apply Kd.R_drew); exact HO139.out) (by decide)) hk (fun _ h => h.2)) (fun _ h => h.1))
       have n5_ := Aside0.mk (KeepBut.trans (by repeat first | (with_reducible first | exact HK.out | apply KeepBut.set_ | apply keep_drewN | apply keep_drew | apply keep_alloc | refine keep_far ?_ GW122.out _ | refine keep_far ?_ GW129.out _) | exact HK.out) hk (.inl rfl)); have n6_ := Aside0.mk (hb); have n7_ := Aside0.mk (hi); clear HO_130000 HO_130001 BK122 BK129 HO139 HK HB HI0; have HO_130000 := n0_; have HO_130001 := n1_; have BK122 := n2_; have BK129 := n3_; have HO139 := n4_; have HK := n5_; have HB := n6_; have HI0 := n7_; clear n0_ n1_ n2_ n3_ n4_ n5_ n6_ n7_
       (try clear hb)
       (try clear hb2)
       (try clear hk)
       (try clear hi)
       refine hK.out _ _ ⟨(blk_cell BK129.out 0).trans rfl, (blk_cell BK129.out 1).trans rfl⟩ (fun hHeld => ?_)
       clear hK K
       refine norm_ (a' := ?_) ?_ ?_
       rotate_left
       ·show Act.put _ (some 19) _ = _
        simp only [Act.put, ps_]
        rfl
       exact norm_ (by simp only [putAll, Act.put, List.setIfInBounds_toArray, List.set_cons_zero, List.set_cons_succ]) (hCont (v138) _ ⟨hHeld, (by (with_reducible repeat first | apply Kd.R_alloc | apply Kd.R_drewN | apply Kd.R_drew); exact HO139.out), (by (with_reducible repeat first | apply Kd.R_alloc | apply Kd.R_drewN | apply Kd.R_drew); exact HO_130000.out), (by (with_reducible repeat first | apply Kd.R_alloc | apply Kd.R_drewN | apply Kd.R_drew); exact HO_130001.out), (by (with_reducible repeat first | apply blk_drewN | apply blk_drew | apply blk_alloc); exact BK122.out), (by (with_reducible repeat first | apply blk_drewN | apply blk_drew | apply blk_alloc); exact BK129.out), (by repeat first | (with_reducible first | exact HI0.out | apply IsS45.alloc | apply IsS45.drewN | apply IsS45.drew | apply IsS45.set_1 | refine IsS45.far ?_ NB0_122.out _ | refine IsS45.far ?_ NB0_129.out _) | exact HI0.out), (by repeat first | (with_reducible first | exact HK.out | apply KeepBut.set_ | apply keep_drewN | apply keep_drew | apply keep_alloc | refine keep_far ?_ GW122.out _ | refine keep_far ?_ GW129.out _) | exact HK.out), (by repeat first | (with_reducible first | exact HB.out | apply below_alloc | apply pw_below_drewN | apply below_drew1 | refine below_set ?_ (IsS45.ge HI0.out) | refine below_set ?_ GE122.out | refine below_set ?_ GE129.out) | exact HB.out)⟩)
     rintro v138 w27 ⟨hS_, h0_, h1_, h2_, h3_, h4_, h5_, h6_, h7_⟩
     have n0_ : Aside0 (Kd.R (Kd.int .i64) 3 w27 w.heap.size (fun _ => True) v138 y137) := ⟨h0_⟩
     have n1_ : Aside0 (Kd.R k30 30 w27 w.heap.size (fun _ => True) (.slice Ao22 x130000_1.length co22) x130000_1) := ⟨h1_⟩
     have n2_ : Aside0 (Kd.R Kd.string 9 w27 w.heap.size (fun _ => True) (.slice Ao8 y126.length co8) y126) := ⟨h2_⟩
     have n3_ : Aside0 (w27.heap[gb122]? = some (.cells #[.slice none 0 0, .slice none 0 0] 26 (0, 0))) := ⟨h3_⟩
     have n4_ : Aside0 (w27.heap[gb129]? = some (.cells #[.slice Ao22 x130000_1.length co22, .slice Ao8 y126.length co8] 26 (0, 0))) := ⟨h4_⟩
     have n5_ : Aside0 (IsS45 w0 w27 g s0_0 t136) := ⟨h5_⟩
     have n6_ : Aside0 (KeepBut w w27 g none) := ⟨h6_⟩
     have n7_ : Aside0 (Below w0.heap.size w0 w27) := ⟨h7_⟩
     clear HO_130000 HO_130001 BK122 BK129 HI0 HK HB h0_ h1_ h2_ h3_ h4_ h5_ h6_ h7_; have HO139 := n0_; have HO_130000 := n1_; have HO_130001 := n2_; have BK122 := n3_; have BK129 := n4_; have HI0 := n5_; have HK := n6_; have HB := n7_; clear n0_ n1_ n2_ n3_ n4_ n5_ n6_ n7_
     have hHeld : w27.cell? ⟨gb129, 0, none⟩ = some (.slice Ao22 x130000_1.length co22) ∧ w27.cell? ⟨gb129, 1, none⟩ = some (.slice Ao8 y126.length co8) := hS_
     obtain ⟨Ao28, co28, eo28⟩ := Kd.R_slice HO139.out
     (first | subst eo28 | (injection eo28 with f1_ f2_ f3_; have f4_ := f1_.symm; have f5_ := f3_.symm; clear f1_ f2_ f3_; subst f4_; subst f5_))
     refine norm_ (a' := ?_) ?_ ?_
     rotate_left
     ·simp only [putAll, Act.put, List.setIfInBounds_toArray, List.set_cons_zero, List.set_cons_succ]
      rfl
     refine one_ (i := 6) (N := some 22) #[tt,tt,tt,tt,tt,tt,tt,ff,ff,ff,ff,ff] rfl rfl (one_of HT_.out (by kernel_rfl)) (by decide) (fun K hK => ?_)
     refine goes_ Tryd.func17 (by kernel_rfl) rfl #[.pointer (some ⟨g, 0, none⟩), .slice Ao28 y137.length co28] (by rfl) rfl rfl (by (try simp only [List.map_toArray, List.map_cons, List.map_nil]); first | done | rfl) ?_
     with_reducible refine (spec_reader_one.calls k1 g s0_0 t136 _ _ y137 t140 t141 w0 _ ?side1 ?side2 ?side3 ?side4 ?side5 A20.out).mono ?_
     (case side1 => repeat (first | (with_reducible first | exact HI0.out | apply IsS45.alloc | apply IsS45.drewN | apply IsS45.drew | apply IsS45.set_1 | refine IsS45.far ?_ NB0_122.out _ | refine IsS45.far ?_ NB0_129.out _) | exact HI0.out))
     (case side2 => repeat (first | (with_reducible first | exact HB.out | apply below_alloc | apply pw_below_drewN | apply below_drew1 | refine below_set ?_ (IsS45.ge HI0.out) | refine below_set ?_ GE122.out | refine below_set ?_ GE129.out) | exact HB.out))
     (case side3 => repeat (first | exact (Kd.R_reads' HO139.out).2.2 | with_reducible first | apply Kd.C_alloc | apply Kd.C_drewN | apply Kd.C_drew))
     (case side4 => exact (Kd.R_reads' HO139.out).2.1)
     (case side5 => exact far_slice (IsS45.own_ne HI0.out HO139.out (by decide)))
     rintro e w29 ⟨rfl, hi, hb, hk⟩
     refine ⟨_, rfl, ?_⟩
     have n0_ := Aside0.mk (Kd.R_mono (Kd.R_keep (IsS45.apart (show IsS45 w0 _ g s0_0 t136 from by repeat (first | (with_reducible first | exact HI0.out | apply IsS45.alloc | apply IsS45.drewN | apply IsS45.drew | apply IsS45.set_1 | refine IsS45.far ?_ NB0_122.out _ | refine IsS45.far ?_ NB0_129.out _) | exact HI0.out)) (by (with_reducible repeat first | apply Kd.R_alloc | apply Kd.R_drewN | apply Kd.R_drew); exact HO_130000.out) (by decide)) hk (fun _ h => h.2)) (fun _ h => h.1))
     have n1_ := Aside0.mk (Kd.R_mono (Kd.R_keep (IsS45.apart (show IsS45 w0 _ g s0_0 t136 from by repeat (first | (with_reducible first | exact HI0.out | apply IsS45.alloc | apply IsS45.drewN | apply IsS45.drew | apply IsS45.set_1 | refine IsS45.far ?_ NB0_122.out _ | refine IsS45.far ?_ NB0_129.out _) | exact HI0.out)) (by (with_reducible repeat first | apply Kd.R_alloc | apply Kd.R_drewN | apply Kd.R_drew); exact HO_130001.out) (by decide)) hk (fun _ h => h.2)) (fun _ h => h.1))
     have n2_ := Aside0.mk (KeepBut.blk hk (g' := gb122) (o := .cells #[.slice none 0 0, .slice none 0 0] 26 (0, 0)) (by (with_reducible repeat first | apply blk_drewN | apply blk_drew | apply blk_alloc); exact BK122.out) NB122_0.out (by simp))
     have n3_ := Aside0.mk (KeepBut.blk hk (g' := gb129) (o := .cells #[.slice Ao22 x130000_1.length co22, .slice Ao8 y126.length co8] 26 (0, 0)) (by (with_reducible repeat first | apply blk_drewN | apply blk_drew | apply blk_alloc); exact BK129.out) NB129_0.out (by simp))
     have n4_ := Aside0.mk (Kd.R_mono (Kd.R_keep (IsS45.apart (show IsS45 w0 _ g s0_0 t136 from by repeat (first | (with_reducible first | exact HI0.out | apply IsS45.alloc | apply IsS45.drewN | apply IsS45.drew | apply IsS45.set_1 | refine IsS45.far ?_ NB0_122.out _ | refine IsS45.far ?_ NB0_129.out _) | exact HI0.out)) (by (with_reducible repeat first | apply Kd.R_alloc | apply Kd.R_drewN | apply Kd.R_drew); exact HO139.out) (by decide)) hk (fun _ h => h.2)) (fun _ h => h.1))
     have n5_ := Aside0.mk (KeepBut.trans (by repeat first | (with_reducible first | exact HK.out | apply KeepBut.set_ | apply keep_drewN | apply keep_drew | apply keep_alloc | refine keep_far ?_ GW122.out _ | refine keep_far ?_ GW129.out _) | exact HK.out) hk (.inl rfl)); have n6_ := Aside0.mk (hb); have n7_ := Aside0.mk (hi); clear HO_130000 HO_130001 BK122 BK129 HO139 HK HB HI0; have HO_130000 := n0_; have HO_130001 := n1_; have BK122 := n2_; have BK129 := n3_; have HO139 := n4_; have HK := n5_; have HB := n6_; have HI0 := n7_; clear n0_ n1_ n2_ n3_ n4_ n5_ n6_ n7_
     (try clear hb)
     (try clear hb2)
     (try clear hk)
     (try clear hi)
     refine hK.out _ _ ⟨(blk_cell BK129.out 0).trans rfl, (blk_cell BK129.out 1).trans rfl⟩ (fun hHeld => ?_)
     clear hK K
     refine norm_ (a' := ?_) ?_ ?_
     rotate_left
     ·show Act.put _ (some 22) _ = _
      simp only [Act.put, ps_]
      rfl
     refine pu_ 7 (some 23) (v := ?_) (a' := ?_) #[tt,tt,tt,tt,tt,tt,tt,tt,ff,ff,ff,ff] HT_.out rfl rfl (by kernel_rfl) (fun _ _ _ h => h) (Or.inl ⟨by rfl, ?_⟩) ?_ ?_
     rotate_left
     ·intro w'
      go_simp
      with_reducible rfl
     rotate_left
     ·simp only [Act.put, ps_]
      rfl
     refine one_ (i := 8) (N := some 24) #[tt,tt,tt,tt,tt,tt,tt,tt,tt,ff,ff,ff] rfl rfl (one_of HT_.out (by kernel_rfl)) (by decide) (fun K hK => ?_)
     refine value_ (w1 := ?_) (v := ?_) (by rfl) rfl ?_ ?_
     rotate_left 2
     ·go_simp
      constructor
      ·rfl
      ·rfl
     refine hK.out _ _ ⟨(blk_cell (blk_alloc BK129.out _) 0).trans rfl, (blk_cell (blk_alloc BK129.out _) 1).trans rfl⟩ (fun hHeld => ?_)
     clear hK K
     refine norm_ (a' := ?_) ?_ ?_
     rotate_left
     ·show Act.put _ (some 24) _ = _
      simp only [Act.put, ps_]
      rfl
     refine one_ (i := 9) (N := some 25) #[tt,tt,tt,tt,tt,tt,tt,tt,tt,tt,ff,ff] rfl rfl (one_of HT_.out (by kernel_rfl)) (by decide) (fun K hK => ?_)
     refine Kd.R_append_step k30 w.heap.size (by rfl) (.tmp 17) (.tmp 24) 23 30 (.agg #[(.string ⟨#[]⟩), (.int .i64 0)]) 24 rfl Tryd.underlying23 info30 rfl (by decide) (by omega) (.slice Ao22 x130000_1.length co22) x130000_1 (⟨t135, t140⟩ : S30) [.string t135, .int .i64 t140] (fun _ => True) (fun _ => False) rfl rfl ?aP (fun _ hk => hk.elim) ?aF ?aO (Below.refl _ _) ?aS ?aL ?_
     (case aP => exact k30_mkM _ _ _ (⟨t135, t140⟩ : S30))
     (case aF => exact (fun _ _ => trivial))
     (case aO => exact (by (with_reducible repeat first | apply Kd.R_alloc | apply Kd.R_drewN | apply Kd.R_drew); exact HO_130000.out))
     (case aS => exact (keep_size (w := w) (g := g) (row := none) (by repeat first | (with_reducible first | exact HK.out | apply KeepBut.set_ | apply keep_drewN | apply keep_drew | apply keep_alloc | refine keep_far ?_ GW122.out _ | refine keep_far ?_ GW129.out _) | exact HK.out)))
     (case aL => have := LMc21.out; omega)
     intro v143 w30 ho hb hg hat
     rw [← Ny142.out] at ho
     have n0_ := Aside0.mk (Kd.R_over' (by (with_reducible repeat first | apply Kd.R_alloc | apply Kd.R_drewN | apply Kd.R_drew); exact HO_130001.out) (Kd.R_typed (by (with_reducible repeat first | apply Kd.R_alloc | apply Kd.R_drewN | apply Kd.R_drew); exact HO_130000.out)) (by decide) hg)
     have n1_ := Aside0.mk (blk_grown (g := gb122) (o := .cells #[.slice none 0 0, .slice none 0 0] 26 (0, 0)) (by (with_reducible repeat first | apply blk_drewN | apply blk_drew | apply blk_alloc); exact BK122.out) hg (Kd.R_ne HO_130000.out BK122.out (by decide)))
     have n2_ := Aside0.mk (blk_grown (g := gb129) (o := .cells #[.slice Ao22 x130000_1.length co22, .slice Ao8 y126.length co8] 26 (0, 0)) (by (with_reducible repeat first | apply blk_drewN | apply blk_drew | apply blk_alloc); exact BK129.out) hg (Kd.R_ne HO_130000.out BK129.out (by decide)))
     have n3_ := Aside0.mk (IsS45.grown (IsS45.same HI0.out (by repeat first | (with_reducible first | exact HI0.out | apply IsS45.alloc | apply IsS45.drewN | apply IsS45.drew | apply IsS45.set_1 | refine IsS45.far ?_ NB0_122.out _ | refine IsS45.far ?_ NB0_129.out _) | exact HI0.out)) hg (IsS45.own_ne HI0.out HO_130000.out (by decide)))
     have n4_ := Aside0.mk (Kd.R_over' (by (with_reducible repeat first | apply Kd.R_alloc | apply Kd.R_drewN | apply Kd.R_drew); exact HO139.out) (Kd.R_typed (by (with_reducible repeat first | apply Kd.R_alloc | apply Kd.R_drewN | apply Kd.R_drew); exact HO_130000.out)) (by decide) hg)
     have n5_ := Aside0.mk (below_weaken (by repeat first | (with_reducible first | exact HB.out | apply below_alloc | apply pw_below_drewN | apply below_drew1 | refine below_set ?_ (IsS45.ge HI0.out) | refine below_set ?_ GE122.out | refine below_set ?_ GE129.out) | exact HB.out) HL.out hb); have n6_ := Aside0.mk (KeepBut.trans (by repeat first | (with_reducible first | exact HK.out | apply KeepBut.set_ | apply keep_drewN | apply keep_drew | apply keep_alloc | refine keep_far ?_ GW122.out _ | refine keep_far ?_ GW129.out _) | exact HK.out) (KeepBut.of_grown hg g) (Kd.R_base2 HO_130000.out)); have n7_ := Aside0.mk (ho); clear HO_130001 BK122 BK129 HI0 HO139 HB HK HO_130000; have HO_130001 := n0_; have BK122 := n1_; have BK129 := n2_; have HI0 := n3_; have HO139 := n4_; have HB := n5_; have HK := n6_; have HO144 := n7_; clear n0_ n1_ n2_ n3_ n4_ n5_ n6_ n7_ ho hb hg hat
     obtain ⟨Ao31, co31, eo31⟩ := Kd.R_slice HO144.out
     (first | subst eo31 | (injection eo31 with f1_ f2_ f3_; have f4_ := f1_.symm; have f5_ := f3_.symm; clear f1_ f2_ f3_; subst f4_; subst f5_))
     refine hK.out _ _ ⟨(blk_cell BK129.out 0).trans rfl, (blk_cell BK129.out 1).trans rfl⟩ (fun hHeld => ?_)
     clear hK K
     refine norm_ (a' := ?_) ?_ ?_
     rotate_left
     ·show Act.put _ (some 25) _ = _
      simp only [Act.put, ps_]
      rfl
     refine pu_ 10 (some 26) (v := ?_) (a' := ?_) #[tt,tt,tt,tt,tt,tt,tt,tt,tt,tt,tt,ff] HT_.out rfl rfl (by kernel_rfl) (fun _ _ _ h => h) (Or.inl ⟨by rfl, ?_⟩) ?_ ?_
     rotate_left
     ·intro w'
      go_simp
      with_reducible rfl
     rotate_left
     ·simp only [Act.put, ps_]
      rfl
     refine last_ (i := 11) (N := none) #[tt,tt,tt,tt,tt,tt,tt,tt,tt,tt,tt,tt] rfl rfl (one_of HT_.out (by kernel_rfl)) (by decide) (fun K hK => ?_)
     have hs32 : w30.cell? ⟨gb129, 0, none⟩ = some (.slice Ao22 x130000_1.length co22) := (blk_cell BK129.out 0).trans rfl
     have hfs32 := blk_frozen BK129.out 0; have hns32_0 := NB122_129.out; have hms32_0 := NB129_122.out
     refine skip_ (w1 := ?_) (by rfl) rfl ?_ ?_
     rotate_left
     ·go_simp
      rfl
     refine hK.out _ _ ?_
     clear hK K
     refine done_ (done_of HT_.out (by kernel_rfl)) ?_
     try go_wp2
     go_roundg k1
     case measure => have := HK1.out; omega
     case rel => exact ⟨(wrap64 (x4_1 - 1)), (t141), (y142), (.slice Ao31 y142.length co31), (by first | rfl | (simp; done) | (simp [*]; done)), H', ⟨by have := HK1.out; omega⟩, ⟨by (with_reducible repeat first | apply Kd.R_alloc | apply Kd.R_drewN | apply Kd.R_drew); exact Kd.R_mono (Kd.R_far (p := ⟨gb129, 0, none⟩) (Kd.R_types HO144.out BK129.out (by decide)) (fun _ hk => hk.2) (.slice Ao31 y142.length co31)) (fun _ hk => trivial)⟩, ⟨by (with_reducible repeat first | apply Kd.R_alloc | apply Kd.R_drewN | apply Kd.R_drew); exact Kd.R_mono (Kd.R_far (p := ⟨gb129, 0, none⟩) (Kd.R_types HO_130001.out BK129.out (by decide)) (fun _ hk => hk.2) (.slice Ao31 y142.length co31)) (fun _ hk => trivial)⟩, ⟨by (with_reducible repeat first | apply blk_drewN | apply blk_drew | apply blk_alloc); refine blk_far ?_ NB122_129.out _; (with_reducible repeat first | apply blk_drewN | apply blk_drew | apply blk_alloc); exact BK122.out⟩, ⟨by (with_reducible repeat first | apply blk_drewN | apply blk_drew | apply blk_alloc); refine blk_put (cs := #[.slice Ao22 x130000_1.length co22, .slice Ao8 y126.length co8]) ?_ 0 _ rfl; (with_reducible repeat first | apply blk_drewN | apply blk_drew | apply blk_alloc); exact BK129.out⟩, ⟨by repeat (first | (with_reducible first | exact HI0.out | apply IsS45.alloc | apply IsS45.drewN | apply IsS45.drew | apply IsS45.set_1 | refine IsS45.far ?_ NB0_122.out _ | refine IsS45.far ?_ NB0_129.out _) | exact HI0.out)⟩, ⟨by repeat (first | (with_reducible first | exact HK.out | apply KeepBut.set_ | apply keep_drewN | apply keep_drew | apply keep_alloc | refine keep_far ?_ GW122.out _ | refine keep_far ?_ GW129.out _) | exact HK.out)⟩, ⟨by repeat (first | (with_reducible first | exact HB.out | apply below_alloc | apply pw_below_drewN | apply below_drew1 | refine below_set ?_ (IsS45.ge HI0.out) | refine below_set ?_ GE122.out | refine below_set ?_ GE129.out) | exact HB.out)⟩⟩
    ·rw [if_neg c21] at H
     exact absurd H (by simp)
   ·rw [if_neg c18] at H
    have c18b0 : decide (0 < x4_1) = false := decide_eq_false c18
    clear c18
    obtain ⟨y145, hy145⟩ : ∃ y_ : List Int, y_ = (([0, 1, 2, 0] : List Int)) := ⟨_, rfl⟩
    replace H : ((spec_reader_one.f k1 s0_0 x1001_1 y145).bind fun bt148 => (spec_someReport.l1 k1 bt148.1 s0_0 bt148.2 x130000_1 y126)) = some (r1, r2, r3) := by first | (rw [hy145]; with_reducible exact H) | (have H2_ := (Option.bind_some _ _).symm.trans H; rw [hy145]; with_reducible exact H2_) | (have H2_ := (Option.bind_some _ _).symm.trans H; with_reducible exact H2_) | with_reducible exact H | (rw [hy145]; exact H) | exact H
    have Ny145 := Aside0.mk hy145; clear hy145
    replace H := Option.bind_eq_some_iff.mp H
    obtain ⟨⟨t148, t149⟩, A330, H⟩ := H
    replace H : (spec_someReport.l1 k1 t148 s0_0 t149 x130000_1 y126) = some (r1, r2, r3) := H
    have A33 := Aside0.mk A330; clear A330; have H' := Aside0.mk H; clear H
    go_wp2_with (first | ((with_reducible refine gate_dst (N := 28) rfl ?_); refine Kd.R_lit (Kd.int .i64) _ 3 ?hg (N := 28) ?hd (xs := ([0, 1, 2, 0] : List Int)) (inner := [.int .i64 0, .int .i64 1, .int .i64 2, .int .i64 0]) (ok := fun _ => True) (okp := fun _ => True) ?hr ?hp (fun _ hk => hk) trivial (Below.refl _ _) (Nat.le_refl _) (by simp) ?_; (case hd => rfl); (case hg => rfl); (case hr => first | (go_simp; done) | (go_simp; rfl)); (case hp => exact (Reps.one (show Kd.M (Kd.int .i64) _ _ _ 0 [.int .i64 0] from rfl) (Reps.one (show Kd.M (Kd.int .i64) _ _ _ 1 [.int .i64 1] from rfl) (Reps.one (show Kd.M (Kd.int .i64) _ _ _ 2 [.int .i64 2] from rfl) (Reps.one (show Kd.M (Kd.int .i64) _ _ _ 0 [.int .i64 0] from rfl) (Reps.none _ _)))))); intro v146 w34 ho35 hb hg_ hnew_; clear hg_ hnew_; (first | rw [← Ny145.out] at ho35 | (simp only [Int.reduceToNat] at ho35; rw [← Ny145.out] at ho35)); replace HO_130000 := Aside0.mk (Kd.R_below (by (with_reducible repeat first | apply Kd.R_alloc | apply Kd.R_drewN | apply Kd.R_drew); exact HO_130000.out) hb); replace HO_130001 := Aside0.mk (Kd.R_below (by (with_reducible repeat first | apply Kd.R_alloc | apply Kd.R_drewN | apply Kd.R_drew); exact HO_130001.out) hb); have HO147 := Aside0.mk (Kd.R_lower ho35 (keep_size (w := w) (g := g) (row := none) (by repeat first | (with_reducible first | exact HK.out | apply KeepBut.set_ | apply keep_drewN | apply keep_drew | apply keep_alloc | refine keep_far ?_ GW122.out _ | refine keep_far ?_ GW129.out _) | exact HK.out))); replace BK122 := Aside0.mk (blk_below (g := gb122) (o := .cells #[.slice none 0 0, .slice none 0 0] 26 (0, 0)) (by (with_reducible repeat first | apply blk_drewN | apply blk_drew | apply blk_alloc); exact BK122.out) hb); replace BK129 := Aside0.mk (blk_below (g := gb129) (o := .cells #[u130000, .slice Ao8 y126.length co8] 26 (0, 0)) (by (with_reducible repeat first | apply blk_drewN | apply blk_drew | apply blk_alloc); exact BK129.out) hb); replace HK := Aside0.mk (KeepBut.trans (by repeat first | (with_reducible first | exact HK.out | apply KeepBut.set_ | apply keep_drewN | apply keep_drew | apply keep_alloc | refine keep_far ?_ GW122.out _ | refine keep_far ?_ GW129.out _) | exact HK.out) (KeepBut.of_below hb g none) (.inl rfl)); replace HB := Aside0.mk (below_step (by repeat first | (with_reducible first | exact HB.out | apply below_alloc | apply pw_below_drewN | apply below_drew1 | refine below_set ?_ (IsS45.ge HI0.out) | refine below_set ?_ GE122.out | refine below_set ?_ GE129.out) | exact HB.out) hb); replace HI0 := Aside0.mk (IsS45.below (by repeat first | (with_reducible first | exact HI0.out | apply IsS45.alloc | apply IsS45.drewN | apply IsS45.drew | apply IsS45.set_1 | refine IsS45.far ?_ NB0_122.out _ | refine IsS45.far ?_ NB0_129.out _) | exact HI0.out) hb); clear hb ho35; obtain ⟨Ao36, co36, eo36⟩ := Kd.R_slice HO147.out; subst eo36) | ((with_reducible refine gate_callee (f := 17) rfl ?_); refine goesL_ (some 29) rfl rfl Tryd.func17 (by kernel_rfl) rfl #[.pointer (some ⟨g, 0, none⟩), .slice Ao36 y145.length co36] rfl (by (try simp only [List.map_toArray, List.map_cons, List.map_nil]); first | done | rfl) ?_; (with_reducible refine (spec_reader_one.calls k1 g s0_0 x1001_1 _ _ y145 t148 t149 w0 _ ?side1 ?side2 ?side3 ?side4 ?side5 A33.out).mono ?_); (case side1 => repeat (first | (with_reducible first | exact HI0.out | apply IsS45.alloc | apply IsS45.drewN | apply IsS45.drew | apply IsS45.set_1 | refine IsS45.far ?_ NB0_122.out _ | refine IsS45.far ?_ NB0_129.out _) | exact HI0.out)); (case side2 => repeat (first | (with_reducible first | exact HB.out | apply below_alloc | apply pw_below_drewN | apply below_drew1 | refine below_set ?_ (IsS45.ge HI0.out) | refine below_set ?_ GE122.out | refine below_set ?_ GE129.out) | exact HB.out)); (case side3 => repeat (first | exact (Kd.R_reads' HO147.out).2.2 | with_reducible first | apply Kd.C_alloc | apply Kd.C_drewN | apply Kd.C_drew)); (case side4 => exact (Kd.R_reads' HO147.out).2.1); (case side5 => exact far_slice (IsS45.own_ne HI0.out HO147.out (by decide))); rintro e w37 ⟨rfl, hi, hb, hk⟩; refine ⟨_, rfl, ?_⟩; replace HO_130000 := Aside0.mk (Kd.R_mono (Kd.R_keep (IsS45.apart (show IsS45 w0 _ g s0_0 x1001_1 from by repeat (first | (with_reducible first | exact HI0.out | apply IsS45.alloc | apply IsS45.drewN | apply IsS45.drew | apply IsS45.set_1 | refine IsS45.far ?_ NB0_122.out _ | refine IsS45.far ?_ NB0_129.out _) | exact HI0.out)) (by (with_reducible repeat first | apply Kd.R_alloc | apply Kd.R_drewN | apply Kd.R_drew); exact HO_130000.out) (by decide)) hk (fun _ h => h.2)) (fun _ h => h.1)); replace HO_130001 := Aside0.mk (Kd.R_mono (Kd.R_keep (IsS45.apart (show IsS45 w0 _ g s0_0 x1001_1 from by repeat (first | (with_reducible first | exact HI0.out | apply IsS45.alloc | apply IsS45.drewN | apply IsS45.drew | apply IsS45.set_1 | refine IsS45.far ?_ NB0_122.out _ | refine IsS45.far ?_ NB0_129.out _) | exact HI0.out)) (by (with_reducible repeat first | apply Kd.R_alloc | apply Kd.R_drewN | apply Kd.R_drew); exact HO_130001.out) (by decide)) hk (fun _ h => h.2)) (fun _ h => h.1)); replace BK122 := Aside0.mk (KeepBut.blk hk (g' := gb122) (o := .cells #[.slice none 0 0, .slice none 0 0] 26 (0, 0)) (by (with_reducible repeat first | apply blk_drewN | apply blk_drew | apply blk_alloc); exact BK122.out) NB122_0.out (by simp)); replace BK129 := Aside0.mk (KeepBut.blk hk (g' := gb129) (o := .cells #[u130000, .slice Ao8 y126.length co8] 26 (0, 0)) (by (with_reducible repeat first | apply blk_drewN | apply blk_drew | apply blk_alloc); exact BK129.out) NB129_0.out (by simp)); replace HO147 := Aside0.mk (Kd.R_mono (Kd.R_keep (IsS45.apart (show IsS45 w0 _ g s0_0 x1001_1 from by repeat (first | (with_reducible first | exact HI0.out | apply IsS45.alloc | apply IsS45.drewN | apply IsS45.drew | apply IsS45.set_1 | refine IsS45.far ?_ NB0_122.out _ | refine IsS45.far ?_ NB0_129.out _) | exact HI0.out)) (by (with_reducible repeat first | apply Kd.R_alloc | apply Kd.R_drewN | apply Kd.R_drew); exact HO147.out) (by decide)) hk (fun _ h => h.2)) (fun _ h => h.1)); replace HK := Aside0.mk (KeepBut.trans (by repeat first | (with_reducible first | exact HK.out | apply KeepBut.set_ | apply keep_drewN | apply keep_drew | apply keep_alloc | refine keep_far ?_ GW122.out _ | refine keep_far ?_ GW129.out _) | exact HK.out) hk (.inl rfl)); replace HB := Aside0.mk (hb); replace HI0 := Aside0.mk (hi); (try clear hb); (try clear hk); (try clear hi)))
    go_loopg [5] k1 (fun kq v5 w' => ∃ (x5_2 : Int) (x1001_2 : Int) (x130001_2 : List ByteArray) (u130001 : Value), v5 = .int .i64 x5_2 ∧ Aside0 (spec_someReport.l1 kq x5_2 s0_0 x1001_2 x130000_1 x130001_2 = some (r1, r2, r3)) ∧ Aside0 (kq ≤ k1) ∧ Aside0 (Kd.R k30 30 w' w.heap.size (fun _ => True) u130000 x130000_1) ∧ Aside0 (Kd.R Kd.string 9 w' w.heap.size (fun _ => True) u130001 x130001_2) ∧ Aside0 (w'.heap[gb122]? = some (.cells #[(.slice none 0 0), (.slice none 0 0)] 26 (0, 0))) ∧ Aside0 (w'.heap[gb129]? = some (.cells #[u130000, u130001] 26 (0, 0))) ∧ Aside0 (IsS45 w0 w' g s0_0 x1001_2) ∧ Aside0 (KeepBut w w' g none) ∧ Aside0 (Below w0.heap.size w0 w'))
    case atStart => exact ⟨(t148), (t149), (y126), (.slice Ao8 y126.length co8), (by first | rfl | (simp; done) | (simp [*]; done)), H', ⟨Nat.le_refl _⟩, ⟨by (with_reducible repeat first | apply Kd.R_alloc | apply Kd.R_drewN | apply Kd.R_drew); exact HO_130000.out⟩, ⟨by (with_reducible repeat first | apply Kd.R_alloc | apply Kd.R_drewN | apply Kd.R_drew); exact HO_130001.out⟩, ⟨by (with_reducible repeat first | apply blk_drewN | apply blk_drew | apply blk_alloc); exact BK122.out⟩, ⟨by (with_reducible repeat first | apply blk_drewN | apply blk_drew | apply blk_alloc); exact BK129.out⟩, ⟨by repeat (first | (with_reducible first | exact HI0.out | apply IsS45.alloc | apply IsS45.drewN | apply IsS45.drew | apply IsS45.set_1 | refine IsS45.far ?_ NB0_122.out _ | refine IsS45.far ?_ NB0_129.out _) | exact HI0.out)⟩, ⟨by repeat (first | (with_reducible first | exact HK.out | apply KeepBut.set_ | apply keep_drewN | apply keep_drew | apply keep_alloc | refine keep_far ?_ GW122.out _ | refine keep_far ?_ GW129.out _) | exact HK.out)⟩, ⟨by repeat (first | (with_reducible first | exact HB.out | apply below_alloc | apply pw_below_drewN | apply below_drew1 | refine below_set ?_ (IsS45.ge HI0.out) | refine below_set ?_ GE122.out | refine below_set ?_ GE129.out) | exact HB.out)⟩⟩
    case round =>
     clear H'; try clear c1; try clear c2; try clear p2; try clear p6; try clear c7; try clear c11; try clear c12; try clear c17; try clear c18; try clear c18b0; try clear c21; try clear hcz13_0; try clear hcz13_1; try clear hfz13_0; try clear hfz13_1; try clear p2
     obtain ⟨x5_2, x1001_2, x130001_2, u130001, rfl, HA, HK2, HO_130000, HO_130001, BK122, BK129, HI0, HK, HB⟩ := hrel
     cases gk with
     | zero => exact absurd HA.out (by simp [spec_someReport.l1])
     | succ k2 =>
      have H := HA.out; clear HA
      simp only [spec_someReport.l1] at H
      by_cases c38 : x5_2 > 0
      ·rw [if_pos c38] at H
       have c38b0 : decide (0 < x5_2) = true := decide_eq_true c38
       clear c38
       obtain ⟨y150, hy150⟩ : ∃ y_ : List ByteArray, y_ = (([(⟨#[100, 98]⟩ : ByteArray), (⟨#[116, 109, 112]⟩ : ByteArray)] : List ByteArray)) := ⟨_, rfl⟩
       replace H : ((spec_reader_of.f k2 s0_0 x1001_2 y150).bind fun bt153 => (if x130001_2.length < 8796093022208 then (spec_someReport.l1 k2 (wrap64 (x5_2 - 1)) s0_0 bt153.2 x130000_1 (x130001_2 ++ [bt153.1])) else (none))) = some (r1, r2, r3) := by first | (rw [hy150]; with_reducible exact H) | (have H2_ := (Option.bind_some _ _).symm.trans H; rw [hy150]; with_reducible exact H2_) | (have H2_ := (Option.bind_some _ _).symm.trans H; with_reducible exact H2_) | with_reducible exact H | (rw [hy150]; exact H) | exact H
       have Ny150 := Aside0.mk hy150; clear hy150
       replace H := Option.bind_eq_some_iff.mp H
       obtain ⟨⟨t153, t154⟩, A390, H⟩ := H
       replace H : (if x130001_2.length < 8796093022208 then (spec_someReport.l1 k2 (wrap64 (x5_2 - 1)) s0_0 t154 x130000_1 (x130001_2 ++ [t153])) else (none)) = some (r1, r2, r3) := H
       have A39 := Aside0.mk A390; clear A390
       by_cases c40 : x130001_2.length < 8796093022208
       ·rw [if_pos c40] at H
        have LMc40 := Aside0.mk c40; clear c40
        obtain ⟨y155, hy155⟩ : ∃ y_ : List ByteArray, y_ = (x130001_2 ++ [t153]) := ⟨_, rfl⟩
        replace H : (spec_someReport.l1 k2 (wrap64 (x5_2 - 1)) s0_0 t154 x130000_1 y155) = some (r1, r2, r3) := by first | (rw [hy155]; with_reducible exact H) | (have H2_ := (Option.bind_some _ _).symm.trans H; rw [hy155]; with_reducible exact H2_) | (have H2_ := (Option.bind_some _ _).symm.trans H; with_reducible exact H2_) | with_reducible exact H | (rw [hy155]; exact H) | exact H
        have Ny155 := Aside0.mk hy155; clear hy155; have H' := Aside0.mk H; clear H; try go_wp2; replace HO_130000 := Aside0.mk (Kd.R_drew HO_130000.out); replace HO_130001 := Aside0.mk (Kd.R_drew HO_130001.out); replace BK122 := Aside0.mk (blk_drew BK122.out); replace BK129 := Aside0.mk (blk_drew BK129.out); replace HI0 := Aside0.mk (IsS45.drew HI0.out); replace HK := Aside0.mk (keep_drew HK.out); replace HB := Aside0.mk (below_drew1 HB.out)
        refine start_ (n := 9) (S := fun w' => w'.cell? ⟨gb129, 0, none⟩ = some (u130000) ∧ w'.cell? ⟨gb129, 1, none⟩ = some (u130001)) (ds := [8]) #[ff,ff,ff,ff,ff,ff,ff,ff,ff] (by kernel_rfl) rfl rfl ⟨(blk_cell BK129.out 0).trans rfl, (blk_cell BK129.out 1).trans rfl⟩ (fun hHeld => ?_); refine with_tabW spec_someReport.tab9 spec_someReport.bits9 (fun HT_ HW_ => ?_)
        generalize wr.drew = w41 at HO_130000 HO_130001 BK122 BK129 HI0 HK HB hHeld ⊢
        refine pu_ 0 (some 34) (v := ?_) (a' := ?_) #[tt,ff,ff,ff,ff,ff,ff,ff,ff] HT_.out rfl rfl (by kernel_rfl) (fun _ _ _ h => h) (Or.inl ⟨by rfl, ?_⟩) ?_ ?_
        rotate_left
        ·intro w'
         go_simp
         with_reducible rfl
        rotate_left
        ·simp only [Act.put, ps_]
         rfl
        refine pu_ 2 (some 36) (v := ?_) (a' := ?_) #[tt,ff,tt,ff,ff,ff,ff,ff,ff] HT_.out rfl rfl (by kernel_rfl) (fun _ _ _ h => h) (Or.inl ⟨by rfl, ?_⟩) ?_ ?_
        rotate_left
        ·intro w'
         go_simp
         with_reducible rfl
        rotate_left
        ·simp only [Act.put, ps_]
         rfl
        refine take_ (i := 1) (N := some 35) (v := ?_) (a' := ?_) #[tt,tt,tt,ff,ff,ff,ff,ff,ff] rfl rfl (take_ofW HT_.out HW_.out (by kernel_rfl)) (fun _ _ _ h => h) (Or.inl ⟨by rfl, ?_⟩) hHeld ?_ ?_
        rotate_left
        ·rintro w' ⟨s0, s1⟩
         go_simp
         with_reducible rfl
        rotate_left
        ·simp only [Act.put, ps_]
         rfl
        refine one_ (i := 3) (N := some 37) #[tt,tt,tt,tt,ff,ff,ff,ff,ff] rfl rfl (one_of HT_.out (by kernel_rfl)) (by decide) (fun K hK => ?_)
        refine Kd.R_lit_step Kd.string _ 9 ?hg (N := 37) ?hd (xs := ([(⟨#[100, 98]⟩ : ByteArray), (⟨#[116, 109, 112]⟩ : ByteArray)] : List ByteArray)) (inner := [.string (⟨#[100, 98]⟩ : ByteArray), .string (⟨#[116, 109, 112]⟩ : ByteArray)]) (ok := fun _ => True) (okp := fun _ => True) ?hr ?hp (fun _ hk => hk) trivial (Below.refl _ _) (Nat.le_refl _) (by simp) ?_; (case hd => rfl); (case hg => rfl); (case hr => first | (go_simp; done) | (go_simp; rfl)); (case hp => exact (Reps.one (show Kd.M Kd.string _ _ _ (⟨#[100, 98]⟩ : ByteArray) [.string (⟨#[100, 98]⟩ : ByteArray)] from rfl) (Reps.one (show Kd.M Kd.string _ _ _ (⟨#[116, 109, 112]⟩ : ByteArray) [.string (⟨#[116, 109, 112]⟩ : ByteArray)] from rfl) (Reps.none _ _))))
        intro v151 w42 ho43 hb hg_ hnew_
        clear hg_ hnew_
        (first | rw [← Ny150.out] at ho43 | (simp only [Int.reduceToNat] at ho43; rw [← Ny150.out] at ho43))
        have n0_ := Aside0.mk (Kd.R_below (by (with_reducible repeat first | apply Kd.R_alloc | apply Kd.R_drewN | apply Kd.R_drew); exact HO_130000.out) hb)
        have n1_ := Aside0.mk (Kd.R_elder' (by (with_reducible repeat first | apply Kd.R_alloc | apply Kd.R_drewN | apply Kd.R_drew); exact HO_130001.out) (Kd.R_base ho43) hb)
        have n2_ := Aside0.mk (Kd.R_lower (Kd.R_new' ho43 (Kd.R_lt (by (with_reducible repeat first | apply Kd.R_alloc | apply Kd.R_drewN | apply Kd.R_drew); exact HO_130001.out))) (keep_size (w := w) (g := g) (row := none) (by repeat first | (with_reducible first | exact HK.out | apply KeepBut.set_ | apply keep_drewN | apply keep_drew | apply keep_alloc | refine keep_far ?_ GW122.out _ | refine keep_far ?_ GW129.out _) | exact HK.out)))
        have n3_ := Aside0.mk (blk_below (g := gb122) (o := .cells #[.slice none 0 0, .slice none 0 0] 26 (0, 0)) (by (with_reducible repeat first | apply blk_drewN | apply blk_drew | apply blk_alloc); exact BK122.out) hb)
        have n4_ := Aside0.mk (blk_below (g := gb129) (o := .cells #[u130000, u130001] 26 (0, 0)) (by (with_reducible repeat first | apply blk_drewN | apply blk_drew | apply blk_alloc); exact BK129.out) hb)
        have n5_ := Aside0.mk (IsS45.below (by repeat first | (with_reducible first | exact HI0.out | apply IsS45.alloc | apply IsS45.drewN | apply IsS45.drew | apply IsS45.set_1 | refine IsS45.far ?_ NB0_122.out _ | refine IsS45.far ?_ NB0_129.out _) | exact HI0.out) hb); have n6_ := Aside0.mk (KeepBut.trans (by repeat first | (with_reducible first | exact HK.out | apply KeepBut.set_ | apply keep_drewN | apply keep_drew | apply keep_alloc | refine keep_far ?_ GW122.out _ | refine keep_far ?_ GW129.out _) | exact HK.out) (KeepBut.of_below hb g none) (.inl rfl)); have n7_ := Aside0.mk (below_step (by repeat first | (with_reducible first | exact HB.out | apply below_alloc | apply pw_below_drewN | apply below_drew1 | refine below_set ?_ (IsS45.ge HI0.out) | refine below_set ?_ GE122.out | refine below_set ?_ GE129.out) | exact HB.out) hb); clear HO_130000 HO_130001 BK122 BK129 HI0 HK HB; have HO_130000 := n0_; have HO_130001 := n1_; have HO152 := n2_; have BK122 := n3_; have BK129 := n4_; have HI0 := n5_; have HK := n6_; have HB := n7_; clear n0_ n1_ n2_ n3_ n4_ n5_ n6_ n7_ hb ho43
        obtain ⟨Ao44, co44, eo44⟩ := Kd.R_slice HO152.out
        (first | subst eo44 | (injection eo44 with f1_ f2_ f3_; have f4_ := f1_.symm; have f5_ := f3_.symm; clear f1_ f2_ f3_; subst f4_; subst f5_))
        refine hK.out _ _ ⟨(blk_cell BK129.out 0).trans rfl, (blk_cell BK129.out 1).trans rfl⟩ (fun hHeld => ?_)
        clear hK K
        refine norm_ (a' := ?_) ?_ ?_
        rotate_left
        ·show Act.put _ (some 37) _ = _
         simp only [Act.put, ps_]
         rfl
        refine one_ (i := 4) (N := some 38) #[tt,tt,tt,tt,tt,ff,ff,ff,ff] rfl rfl (one_of HT_.out (by kernel_rfl)) (by decide) (fun K hK => ?_)
        refine goes_ Tryd.func19 (by kernel_rfl) rfl #[.pointer (some ⟨g, 0, none⟩), .slice Ao44 y150.length co44] (by rfl) rfl rfl (by (try simp only [List.map_toArray, List.map_cons, List.map_nil]); first | done | rfl) ?_
        with_reducible refine (spec_reader_of.calls k2 g s0_0 x1001_2 _ _ y150 t153 t154 w0 _ ?side1 ?side2 ?side3 ?side4 ?side5 A39.out).mono ?_
        (case side1 => repeat (first | (with_reducible first | exact HI0.out | apply IsS45.alloc | apply IsS45.drewN | apply IsS45.drew | apply IsS45.set_1 | refine IsS45.far ?_ NB0_122.out _ | refine IsS45.far ?_ NB0_129.out _) | exact HI0.out))
        (case side2 => repeat (first | (with_reducible first | exact HB.out | apply below_alloc | apply pw_below_drewN | apply below_drew1 | refine below_set ?_ (IsS45.ge HI0.out) | refine below_set ?_ GE122.out | refine below_set ?_ GE129.out) | exact HB.out))
        (case side3 => repeat (first | exact (Kd.R_reads' HO152.out).2.2 | with_reducible first | apply Kd.C_alloc | apply Kd.C_drewN | apply Kd.C_drew))
        (case side4 => exact (Kd.R_reads' HO152.out).2.1)
        (case side5 => exact far_slice (IsS45.own_ne HI0.out HO152.out (by decide)))
        rintro e w45 ⟨rfl, hi, hb, hk⟩
        refine ⟨_, rfl, ?_⟩
        have n0_ := Aside0.mk (Kd.R_mono (Kd.R_keep (IsS45.apart (show IsS45 w0 _ g s0_0 x1001_2 from by repeat (first | (with_reducible first | exact HI0.out | apply IsS45.alloc | apply IsS45.drewN | apply IsS45.drew | apply IsS45.set_1 | refine IsS45.far ?_ NB0_122.out _ | refine IsS45.far ?_ NB0_129.out _) | exact HI0.out)) (by (with_reducible repeat first | apply Kd.R_alloc | apply Kd.R_drewN | apply Kd.R_drew); exact HO_130000.out) (by decide)) hk (fun _ h => h.2)) (fun _ h => h.1))
        have n1_ := Aside0.mk (Kd.R_mono (Kd.R_keep (IsS45.apart (show IsS45 w0 _ g s0_0 x1001_2 from by repeat (first | (with_reducible first | exact HI0.out | apply IsS45.alloc | apply IsS45.drewN | apply IsS45.drew | apply IsS45.set_1 | refine IsS45.far ?_ NB0_122.out _ | refine IsS45.far ?_ NB0_129.out _) | exact HI0.out)) (by (with_reducible repeat first | apply Kd.R_alloc | apply Kd.R_drewN | apply Kd.R_drew); exact HO_130001.out) (by decide)) hk (fun _ h => h.2)) (fun _ h => h.1))
        have n2_ := Aside0.mk (KeepBut.blk hk (g' := gb122) (o := .cells #[.slice none 0 0, .slice none 0 0] 26 (0, 0)) (by (with_reducible repeat first | apply blk_drewN | apply blk_drew | apply blk_alloc); exact BK122.out) NB122_0.out (by simp))
        have n3_ := Aside0.mk (KeepBut.blk hk (g' := gb129) (o := .cells #[u130000, u130001] 26 (0, 0)) (by (with_reducible repeat first | apply blk_drewN | apply blk_drew | apply blk_alloc); exact BK129.out) NB129_0.out (by simp))
        have n4_ := Aside0.mk (Kd.R_mono (Kd.R_keep (IsS45.apart (show IsS45 w0 _ g s0_0 x1001_2 from by repeat (first | (with_reducible first | exact HI0.out | apply IsS45.alloc | apply IsS45.drewN | apply IsS45.drew | apply IsS45.set_1 | refine IsS45.far ?_ NB0_122.out _ | refine IsS45.far ?_ NB0_129.out _) | exact HI0.out)) (by (with_reducible repeat first | apply Kd.R_alloc | apply Kd.R_drewN | apply Kd.R_drew); exact HO152.out) (by decide)) hk (fun _ h => h.2)) (fun _ h => h.1))
        have n5_ := Aside0.mk (KeepBut.trans (by repeat first | (with_reducible first | exact HK.out | apply KeepBut.set_ | apply keep_drewN | apply keep_drew | apply keep_alloc | refine keep_far ?_ GW122.out _ | refine keep_far ?_ GW129.out _) | exact HK.out) hk (.inl rfl)); have n6_ := Aside0.mk (hb); have n7_ := Aside0.mk (hi); clear HO_130000 HO_130001 BK122 BK129 HO152 HK HB HI0; have HO_130000 := n0_; have HO_130001 := n1_; have BK122 := n2_; have BK129 := n3_; have HO152 := n4_; have HK := n5_; have HB := n6_; have HI0 := n7_; clear n0_ n1_ n2_ n3_ n4_ n5_ n6_ n7_
        (try clear hb)
        (try clear hb2)
        (try clear hk)
        (try clear hi)
        refine hK.out _ _ ⟨(blk_cell BK129.out 0).trans rfl, (blk_cell BK129.out 1).trans rfl⟩ (fun hHeld => ?_)
        clear hK K
        refine norm_ (a' := ?_) ?_ ?_
        rotate_left
        ·show Act.put _ (some 38) _ = _
         simp only [Act.put, ps_]
         rfl
        refine one_ (i := 5) (N := some 39) #[tt,tt,tt,tt,tt,tt,ff,ff,ff] rfl rfl (one_of HT_.out (by kernel_rfl)) (by decide) (fun K hK => ?_)
        refine value_ (w1 := ?_) (v := ?_) (by rfl) rfl ?_ ?_
        rotate_left 2
        ·go_simp
         constructor
         ·rfl
         ·rfl
        refine hK.out _ _ ⟨(blk_cell (blk_alloc BK129.out _) 0).trans rfl, (blk_cell (blk_alloc BK129.out _) 1).trans rfl⟩ (fun hHeld => ?_)
        clear hK K
        refine norm_ (a' := ?_) ?_ ?_
        rotate_left
        ·show Act.put _ (some 39) _ = _
         simp only [Act.put, ps_]
         rfl
        refine one_ (i := 6) (N := some 40) #[tt,tt,tt,tt,tt,tt,tt,ff,ff] rfl rfl (one_of HT_.out (by kernel_rfl)) (by decide) (fun K hK => ?_)
        refine Kd.R_append_step Kd.string w.heap.size (by rfl) (.tmp 35) (.tmp 39) 24 9 (.string ⟨#[]⟩) 16 rfl Tryd.underlying24 info9 rfl (by decide) (by omega) u130001 x130001_2 t153 [.string t153] (fun k_ => some k_ ≠ (.slice Ao44 y150.length co44 : Value).ownBlock) (fun _ => False) rfl rfl ?aP (fun _ hk => hk.elim) ?aF ?aO (Below.refl _ _) ?aS ?aL ?_
        (case aP => exact rfl)
        (case aF => exact (fun k_ hk => Kd.fresh' (Kd.R_lt (by (with_reducible repeat first | apply Kd.R_alloc | apply Kd.R_drewN | apply Kd.R_drew); exact HO152.out)) k_ hk))
        (case aO => exact (by (with_reducible repeat first | apply Kd.R_alloc | apply Kd.R_drewN | apply Kd.R_drew); exact Kd.R_mono HO_130001.out (fun _ hk => hk.2)))
        (case aS => exact (keep_size (w := w) (g := g) (row := none) (by repeat first | (with_reducible first | exact HK.out | apply KeepBut.set_ | apply keep_drewN | apply keep_drew | apply keep_alloc | refine keep_far ?_ GW122.out _ | refine keep_far ?_ GW129.out _) | exact HK.out)))
        (case aL => have := LMc40.out; omega)
        intro v156 w46 ho hb hg hat
        rw [← Ny155.out] at ho
        have n0_ := Aside0.mk (Kd.R_over' (by (with_reducible repeat first | apply Kd.R_alloc | apply Kd.R_drewN | apply Kd.R_drew); exact HO_130000.out) (Kd.R_typed (by (with_reducible repeat first | apply Kd.R_alloc | apply Kd.R_drewN | apply Kd.R_drew); exact HO_130001.out)) (by decide) hg)
        have n1_ := Aside0.mk (blk_grown (g := gb122) (o := .cells #[.slice none 0 0, .slice none 0 0] 26 (0, 0)) (by (with_reducible repeat first | apply blk_drewN | apply blk_drew | apply blk_alloc); exact BK122.out) hg (Kd.R_ne HO_130001.out BK122.out (by decide)))
        have n2_ := Aside0.mk (blk_grown (g := gb129) (o := .cells #[u130000, u130001] 26 (0, 0)) (by (with_reducible repeat first | apply blk_drewN | apply blk_drew | apply blk_alloc); exact BK129.out) hg (Kd.R_ne HO_130001.out BK129.out (by decide)))
        have n3_ := Aside0.mk (IsS45.grown (IsS45.same HI0.out (by repeat first | (with_reducible first | exact HI0.out | apply IsS45.alloc | apply IsS45.drewN | apply IsS45.drew | apply IsS45.set_1 | refine IsS45.far ?_ NB0_122.out _ | refine IsS45.far ?_ NB0_129.out _) | exact HI0.out)) hg (IsS45.own_ne HI0.out HO_130001.out (by decide)))
        have n4_ := Aside0.mk (Kd.R_after (ok := (fun _ => True)) (by (with_reducible repeat first | apply Kd.R_alloc | apply Kd.R_drewN | apply Kd.R_drew); exact HO152.out) hg hat)
        have n5_ := Aside0.mk (below_weaken (by repeat first | (with_reducible first | exact HB.out | apply below_alloc | apply pw_below_drewN | apply below_drew1 | refine below_set ?_ (IsS45.ge HI0.out) | refine below_set ?_ GE122.out | refine below_set ?_ GE129.out) | exact HB.out) HL.out hb); have n6_ := Aside0.mk (KeepBut.trans (by repeat first | (with_reducible first | exact HK.out | apply KeepBut.set_ | apply keep_drewN | apply keep_drew | apply keep_alloc | refine keep_far ?_ GW122.out _ | refine keep_far ?_ GW129.out _) | exact HK.out) (KeepBut.of_grown hg g) (Kd.R_base2 HO_130001.out)); have n7_ := Aside0.mk (ho); clear HO_130000 BK122 BK129 HI0 HO152 HB HK HO_130001; have HO_130000 := n0_; have BK122 := n1_; have BK129 := n2_; have HI0 := n3_; have HO152 := n4_; have HB := n5_; have HK := n6_; have HO157 := n7_; clear n0_ n1_ n2_ n3_ n4_ n5_ n6_ n7_ ho hb hg hat
        obtain ⟨Ao47, co47, eo47⟩ := Kd.R_slice HO157.out
        (first | subst eo47 | (injection eo47 with f1_ f2_ f3_; have f4_ := f1_.symm; have f5_ := f3_.symm; clear f1_ f2_ f3_; subst f4_; subst f5_))
        refine hK.out _ _ ⟨(blk_cell BK129.out 0).trans rfl, (blk_cell BK129.out 1).trans rfl⟩ (fun hHeld => ?_)
        clear hK K
        refine norm_ (a' := ?_) ?_ ?_
        rotate_left
        ·show Act.put _ (some 40) _ = _
         simp only [Act.put, ps_]
         rfl
        refine pu_ 7 (some 41) (v := ?_) (a' := ?_) #[tt,tt,tt,tt,tt,tt,tt,tt,ff] HT_.out rfl rfl (by kernel_rfl) (fun _ _ _ h => h) (Or.inl ⟨by rfl, ?_⟩) ?_ ?_
        rotate_left
        ·intro w'
         go_simp
         with_reducible rfl
        rotate_left
        ·simp only [Act.put, ps_]
         rfl
        refine last_ (i := 8) (N := none) #[tt,tt,tt,tt,tt,tt,tt,tt,tt] rfl rfl (one_of HT_.out (by kernel_rfl)) (by decide) (fun K hK => ?_)
        have hs48 : w46.cell? ⟨gb129, 1, none⟩ = some (u130001) := (blk_cell BK129.out 1).trans rfl
        have hfs48 := blk_frozen BK129.out 1; have hns48_0 := NB122_129.out; have hms48_0 := NB129_122.out
        refine skip_ (w1 := ?_) (by rfl) rfl ?_ ?_
        rotate_left
        ·go_simp
         rfl
        refine hK.out _ _ ?_
        clear hK K
        refine done_ (done_of HT_.out (by kernel_rfl)) ?_
        try go_wp2
        go_roundg k2
        case measure => have := HK1.out; have := HK2.out; omega
        case rel => exact ⟨(wrap64 (x5_2 - 1)), (t154), (y155), (.slice Ao47 y155.length co47), (by first | rfl | (simp; done) | (simp [*]; done)), H', ⟨by have := HK1.out; have := HK2.out; omega⟩, ⟨by (with_reducible repeat first | apply Kd.R_alloc | apply Kd.R_drewN | apply Kd.R_drew); exact Kd.R_mono (Kd.R_far (p := ⟨gb129, 1, none⟩) (Kd.R_types HO_130000.out BK129.out (by decide)) (fun _ hk => hk.2) (.slice Ao47 y155.length co47)) (fun _ hk => trivial)⟩, ⟨by (with_reducible repeat first | apply Kd.R_alloc | apply Kd.R_drewN | apply Kd.R_drew); exact Kd.R_mono (Kd.R_far (p := ⟨gb129, 1, none⟩) (Kd.R_types HO157.out BK129.out (by decide)) (fun _ hk => hk.2) (.slice Ao47 y155.length co47)) (fun _ hk => trivial)⟩, ⟨by (with_reducible repeat first | apply blk_drewN | apply blk_drew | apply blk_alloc); refine blk_far ?_ NB122_129.out _; (with_reducible repeat first | apply blk_drewN | apply blk_drew | apply blk_alloc); exact BK122.out⟩, ⟨by (with_reducible repeat first | apply blk_drewN | apply blk_drew | apply blk_alloc); refine blk_put (cs := #[u130000, u130001]) ?_ 1 _ rfl; (with_reducible repeat first | apply blk_drewN | apply blk_drew | apply blk_alloc); exact BK129.out⟩, ⟨by repeat (first | (with_reducible first | exact HI0.out | apply IsS45.alloc | apply IsS45.drewN | apply IsS45.drew | apply IsS45.set_1 | refine IsS45.far ?_ NB0_122.out _ | refine IsS45.far ?_ NB0_129.out _) | exact HI0.out)⟩, ⟨by repeat (first | (with_reducible first | exact HK.out | apply KeepBut.set_ | apply keep_drewN | apply keep_drew | apply keep_alloc | refine keep_far ?_ GW122.out _ | refine keep_far ?_ GW129.out _) | exact HK.out)⟩, ⟨by repeat (first | (with_reducible first | exact HB.out | apply below_alloc | apply pw_below_drewN | apply below_drew1 | refine below_set ?_ (IsS45.ge HI0.out) | refine below_set ?_ GE122.out | refine below_set ?_ GE129.out) | exact HB.out)⟩⟩
       ·rw [if_neg c40] at H
        exact absurd H (by simp)
      ·rw [if_neg c38] at H
       have c38b0 : decide (0 < x5_2) = false := decide_eq_false c38
       clear c38; have HC49 := Aside0.mk H; clear H
       go_upto_region 10 with (fail)
       go_cut [50] (fun v50 wc => ∃ (kq : Nat) (x50_48 : Bool) (x1001_48 : Int), v50 = .bool x50_48 ∧ Aside0 (spec_someReport.j2 kq x50_48 s0_0 x1001_48 x130000_1 x130001_2 = some (r1, r2, r3)) ∧ Aside0 (kq ≤ k2) ∧ Aside0 (Kd.R k30 30 wc w.heap.size (fun _ => True) u130000 x130000_1) ∧ Aside0 (Kd.R Kd.string 9 wc w.heap.size (fun _ => True) u130001 x130001_2) ∧ Aside0 (wc.heap[gb122]? = some (.cells #[(.slice none 0 0), (.slice none 0 0)] 26 (0, 0))) ∧ Aside0 (wc.heap[gb129]? = some (.cells #[u130000, u130001] 26 (0, 0))) ∧ Aside0 (IsS45 w0 wc g s0_0 x1001_48) ∧ Aside0 (KeepBut w wc g none) ∧ Aside0 (Below w0.heap.size w0 wc))
       case first =>
        have H := HC49.out; clear HC49
        by_cases c50 : (x130000_1.length : Int) > 0
        ·rw [if_pos c50] at H
         have c50b0 : decide (0 < (x130000_1.length : Int)) = true := decide_eq_true c50
         have c50b1 : decide (0 < x130000_1.length) = true := decide_eq_true (by omega)
         clear c50
         (first | rw [c50b0] | (simp only [i64_w, i32_w]; rw [c50b0]) | skip)
         replace H := Option.bind_eq_some_iff.mp H
         obtain ⟨⟨t158, t159⟩, A510, H⟩ := H
         replace H : (spec_someReport.j2 k2 (t158 == 0) s0_0 t159 x130000_1 x130001_2) = some (r1, r2, r3) := H
         have A51 := Aside0.mk A510; clear A510; have H' := Aside0.mk H; clear H; have hnb52 := NB129_122.out; have hnc52 := NB122_129.out; have hnb53 := NB129_0.out; have hnc53 := NB0_129.out
         have hcz54_0 : wr.cell? ⟨gb129, 0, none⟩ = some (u130000) := (blk_cell BK129.out 0).trans rfl
         have hcz54_1 : wr.cell? ⟨gb129, 1, none⟩ = some (u130001) := (blk_cell BK129.out 1).trans rfl
         have hfz54_0 := blk_frozen BK129.out 0; have hfz54_1 := blk_frozen BK129.out 1
         obtain ⟨Ao55, co55, eo55⟩ := Kd.R_slice HO_130000.out
         subst eo55
         go_wp2_with (first | (go_at_call 20; (with_reducible refine (spec_reader_pick.calls k2 g s0_0 x1001_2 24 t158 t159 w0 _ ?side1 ?side2 A51.out).mono ?_); (case side1 => repeat (first | (with_reducible first | exact HI0.out | apply IsS45.alloc | apply IsS45.drewN | apply IsS45.drew | apply IsS45.set_1 | refine IsS45.far ?_ NB0_122.out _ | refine IsS45.far ?_ NB0_129.out _) | exact HI0.out)); (case side2 => repeat (first | (with_reducible first | exact HB.out | apply below_alloc | apply pw_below_drewN | apply below_drew1 | refine below_set ?_ (IsS45.ge HI0.out) | refine below_set ?_ GE122.out | refine below_set ?_ GE129.out) | exact HB.out)); rintro e w56 ⟨rfl, hi, hb, hk⟩; replace HO_130000 := Aside0.mk (Kd.R_mono (Kd.R_keep (IsS45.apart (show IsS45 w0 _ g s0_0 x1001_2 from by repeat (first | (with_reducible first | exact HI0.out | apply IsS45.alloc | apply IsS45.drewN | apply IsS45.drew | apply IsS45.set_1 | refine IsS45.far ?_ NB0_122.out _ | refine IsS45.far ?_ NB0_129.out _) | exact HI0.out)) (by (with_reducible repeat first | apply Kd.R_alloc | apply Kd.R_drewN | apply Kd.R_drew); exact HO_130000.out) (by decide)) hk (fun _ h => h.2)) (fun _ h => h.1)); replace HO_130001 := Aside0.mk (Kd.R_mono (Kd.R_keep (IsS45.apart (show IsS45 w0 _ g s0_0 x1001_2 from by repeat (first | (with_reducible first | exact HI0.out | apply IsS45.alloc | apply IsS45.drewN | apply IsS45.drew | apply IsS45.set_1 | refine IsS45.far ?_ NB0_122.out _ | refine IsS45.far ?_ NB0_129.out _) | exact HI0.out)) (by (with_reducible repeat first | apply Kd.R_alloc | apply Kd.R_drewN | apply Kd.R_drew); exact HO_130001.out) (by decide)) hk (fun _ h => h.2)) (fun _ h => h.1)); replace BK122 := Aside0.mk (KeepBut.blk hk (g' := gb122) (o := .cells #[.slice none 0 0, .slice none 0 0] 26 (0, 0)) (by (with_reducible repeat first | apply blk_drewN | apply blk_drew | apply blk_alloc); exact BK122.out) NB122_0.out (by simp)); replace BK129 := Aside0.mk (KeepBut.blk hk (g' := gb129) (o := .cells #[.slice Ao55 x130000_1.length co55, u130001] 26 (0, 0)) (by (with_reducible repeat first | apply blk_drewN | apply blk_drew | apply blk_alloc); exact BK129.out) NB129_0.out (by simp)); replace HK := Aside0.mk (KeepBut.trans (by repeat first | (with_reducible first | exact HK.out | apply KeepBut.set_ | apply keep_drewN | apply keep_drew | apply keep_alloc | refine keep_far ?_ GW122.out _ | refine keep_far ?_ GW129.out _) | exact HK.out) hk (.inl rfl)); replace HB := Aside0.mk (hb); replace HI0 := Aside0.mk (hi); (try clear hb); (try clear hk); (try clear hi)))
         go_meet
         case rel => exact ⟨_, ((t158 == 0)), (t159), (by first | rfl | (simp; done) | (simp [*]; done)), H', ⟨by have := HK1.out; have := HK2.out; first | omega | exact Nat.le_refl _⟩, ⟨by (with_reducible repeat first | apply Kd.R_alloc | apply Kd.R_drewN | apply Kd.R_drew); exact HO_130000.out⟩, ⟨by (with_reducible repeat first | apply Kd.R_alloc | apply Kd.R_drewN | apply Kd.R_drew); exact HO_130001.out⟩, ⟨by (with_reducible repeat first | apply blk_drewN | apply blk_drew | apply blk_alloc); exact BK122.out⟩, ⟨by (with_reducible repeat first | apply blk_drewN | apply blk_drew | apply blk_alloc); exact BK129.out⟩, ⟨by repeat (first | (with_reducible first | exact HI0.out | apply IsS45.alloc | apply IsS45.drewN | apply IsS45.drew | apply IsS45.set_1 | refine IsS45.far ?_ NB0_122.out _ | refine IsS45.far ?_ NB0_129.out _) | exact HI0.out)⟩, ⟨by repeat (first | (with_reducible first | exact HK.out | apply KeepBut.set_ | apply keep_drewN | apply keep_drew | apply keep_alloc | refine keep_far ?_ GW122.out _ | refine keep_far ?_ GW129.out _) | exact HK.out)⟩, ⟨by repeat (first | (with_reducible first | exact HB.out | apply below_alloc | apply pw_below_drewN | apply below_drew1 | refine below_set ?_ (IsS45.ge HI0.out) | refine below_set ?_ GE122.out | refine below_set ?_ GE129.out) | exact HB.out)⟩⟩
        ·rw [if_neg c50] at H
         have c50b0 : decide (0 < (x130000_1.length : Int)) = false := decide_eq_false c50
         have c50b1 : decide (0 < x130000_1.length) = false := decide_eq_false (by omega)
         clear c50
         (first | rw [c50b0] | (simp only [i64_w, i32_w]; rw [c50b0]) | skip)
         have H' := Aside0.mk H; clear H; have hnb57 := NB129_122.out; have hnc57 := NB122_129.out; have hnb58 := NB129_0.out; have hnc58 := NB0_129.out
         have hcz59_0 : wr.cell? ⟨gb129, 0, none⟩ = some (u130000) := (blk_cell BK129.out 0).trans rfl
         have hcz59_1 : wr.cell? ⟨gb129, 1, none⟩ = some (u130001) := (blk_cell BK129.out 1).trans rfl
         have hfz59_0 := blk_frozen BK129.out 0; have hfz59_1 := blk_frozen BK129.out 1
         obtain ⟨Ao60, co60, eo60⟩ := Kd.R_slice HO_130000.out
         subst eo60
         go_wp2
         go_meet
         case rel => exact ⟨_, (false), (x1001_2), (by first | rfl | (simp; done) | (simp [*]; done)), H', ⟨by have := HK1.out; have := HK2.out; first | omega | exact Nat.le_refl _⟩, ⟨by (with_reducible repeat first | apply Kd.R_alloc | apply Kd.R_drewN | apply Kd.R_drew); exact HO_130000.out⟩, ⟨by (with_reducible repeat first | apply Kd.R_alloc | apply Kd.R_drewN | apply Kd.R_drew); exact HO_130001.out⟩, ⟨by (with_reducible repeat first | apply blk_drewN | apply blk_drew | apply blk_alloc); exact BK122.out⟩, ⟨by (with_reducible repeat first | apply blk_drewN | apply blk_drew | apply blk_alloc); exact BK129.out⟩, ⟨by repeat (first | (with_reducible first | exact HI0.out | apply IsS45.alloc | apply IsS45.drewN | apply IsS45.drew | apply IsS45.set_1 | refine IsS45.far ?_ NB0_122.out _ | refine IsS45.far ?_ NB0_129.out _) | exact HI0.out)⟩, ⟨by repeat (first | (with_reducible first | exact HK.out | apply KeepBut.set_ | apply keep_drewN | apply keep_drew | apply keep_alloc | refine keep_far ?_ GW122.out _ | refine keep_far ?_ GW129.out _) | exact HK.out)⟩, ⟨by repeat (first | (with_reducible first | exact HB.out | apply below_alloc | apply pw_below_drewN | apply below_drew1 | refine below_set ?_ (IsS45.ge HI0.out) | refine below_set ?_ GE122.out | refine below_set ?_ GE129.out) | exact HB.out)⟩⟩
       case rest =>
        clear HC49; try clear c1; try clear c2; try clear p2; try clear c3; try clear c4; try clear c5; try clear p6; try clear c7; try clear c11; try clear c12; try clear c17; try clear c18; try clear c18b0; try clear c19; try clear c21; try clear c38; try clear c38b0; try clear c40; try clear c50; try clear c50b0; try clear c50b1; try clear c52; try clear c53; try clear c57; try clear c58; try clear hcz13_0; try clear hcz13_1; try clear hcz54_0; try clear hcz54_1; try clear hcz59_0; try clear hcz59_1; try clear hfz13_0; try clear hfz13_1; try clear hfz54_0; try clear hfz54_1; try clear hfz59_0; try clear hfz59_1; try clear p2; try clear p6
        obtain ⟨kq, x50_48, x1001_48, rfl, HA, HJ48, HO_130000, HO_130001, BK122, BK129, HI0, HK, HB⟩ := hcut
        cases kq with
        | zero => exact absurd HA.out (by simp [spec_someReport.j2])
        | succ kj48 =>
         have H := HA.out; clear HA
         simp only [spec_someReport.j2] at H
         by_cases c61 : x50_48 = true
         ·subst c61
          have H1 : ((spec_reader_of.f kj48 s0_0 x1001_48 (([(⟨#[109]⟩ : ByteArray), (⟨#[109, 46, 97, 46, 98]⟩ : ByteArray), (⟨#[77, 46, 97]⟩ : ByteArray)] : List ByteArray))).bind fun bt163 => ((spec_reader_one.f kj48 s0_0 bt163.2 (([0, 6, (-1)] : List Int))).bind fun bt168 => (if 0 < (x130000_1.length : Int) then (some ((x130000_1.set (0 : Int).toNat (⟨bt163.1, bt168.1⟩ : S30)), x130001_2, bt168.2)) else (none)))) = some (r1, r2, r3) := by rw [if_pos rfl] at H; exact H
          clear H; have H := H1; clear H1
          obtain ⟨y160, hy160⟩ : ∃ y_ : List ByteArray, y_ = (([(⟨#[109]⟩ : ByteArray), (⟨#[109, 46, 97, 46, 98]⟩ : ByteArray), (⟨#[77, 46, 97]⟩ : ByteArray)] : List ByteArray)) := ⟨_, rfl⟩
          replace H : ((spec_reader_of.f kj48 s0_0 x1001_48 y160).bind fun bt163 => ((spec_reader_one.f kj48 s0_0 bt163.2 (([0, 6, (-1)] : List Int))).bind fun bt168 => (if 0 < (x130000_1.length : Int) then (some ((x130000_1.set (0 : Int).toNat (⟨bt163.1, bt168.1⟩ : S30)), x130001_2, bt168.2)) else (none)))) = some (r1, r2, r3) := by first | (rw [hy160]; with_reducible exact H) | (have H2_ := (Option.bind_some _ _).symm.trans H; rw [hy160]; with_reducible exact H2_) | (have H2_ := (Option.bind_some _ _).symm.trans H; with_reducible exact H2_) | with_reducible exact H | (rw [hy160]; exact H) | exact H
          have Ny160 := Aside0.mk hy160; clear hy160
          replace H := Option.bind_eq_some_iff.mp H
          obtain ⟨⟨t163, t164⟩, A620, H⟩ := H
          replace H : ((spec_reader_one.f kj48 s0_0 t164 (([0, 6, (-1)] : List Int))).bind fun bt168 => (if 0 < (x130000_1.length : Int) then (some ((x130000_1.set (0 : Int).toNat (⟨t163, bt168.1⟩ : S30)), x130001_2, bt168.2)) else (none))) = some (r1, r2, r3) := H
          have A62 := Aside0.mk A620; clear A620
          obtain ⟨y165, hy165⟩ : ∃ y_ : List Int, y_ = (([0, 6, (-1)] : List Int)) := ⟨_, rfl⟩
          replace H : ((spec_reader_one.f kj48 s0_0 t164 y165).bind fun bt168 => (if 0 < (x130000_1.length : Int) then (some ((x130000_1.set (0 : Int).toNat (⟨t163, bt168.1⟩ : S30)), x130001_2, bt168.2)) else (none))) = some (r1, r2, r3) := by first | (rw [hy165]; with_reducible exact H) | (have H2_ := (Option.bind_some _ _).symm.trans H; rw [hy165]; with_reducible exact H2_) | (have H2_ := (Option.bind_some _ _).symm.trans H; with_reducible exact H2_) | with_reducible exact H | (rw [hy165]; exact H) | exact H
          have Ny165 := Aside0.mk hy165; clear hy165
          replace H := Option.bind_eq_some_iff.mp H
          obtain ⟨⟨t168, t169⟩, A630, H⟩ := H
          replace H : (if 0 < (x130000_1.length : Int) then (some ((x130000_1.set (0 : Int).toNat (⟨t163, t168⟩ : S30)), x130001_2, t169)) else (none)) = some (r1, r2, r3) := H
          have A63 := Aside0.mk A630; clear A630
          by_cases c64 : 0 < (x130000_1.length : Int)
          ·rw [if_pos c64] at H
           have c64b0 : decide (0 < (x130000_1.length : Int)) = true := decide_eq_true c64
           have c64b1 : decide (0 < x130000_1.length) = true := decide_eq_true (by omega)
           clear c64
           obtain ⟨y170, hy170⟩ : ∃ y_ : List (S30), y_ = (x130000_1.set (0 : Int).toNat (⟨t163, t168⟩ : S30)) := ⟨_, rfl⟩
           replace H : (some (y170, x130001_2, t169)) = some (r1, r2, r3) := by first | (rw [hy170]; with_reducible exact H) | (have H2_ := (Option.bind_some _ _).symm.trans H; rw [hy170]; with_reducible exact H2_) | (have H2_ := (Option.bind_some _ _).symm.trans H; with_reducible exact H2_) | with_reducible exact H | (rw [hy170]; exact H) | exact H
           have Ny170 := Aside0.mk hy170; clear hy170
           simp only [Option.some.injEq, Prod.mk.injEq] at H
           obtain ⟨rfl, rfl, rfl⟩ := H
           try go_wp2; replace HO_130000 := Aside0.mk (Kd.R_drew HO_130000.out); replace HO_130001 := Aside0.mk (Kd.R_drew HO_130001.out); replace BK122 := Aside0.mk (blk_drew BK122.out); replace BK129 := Aside0.mk (blk_drew BK129.out); replace HI0 := Aside0.mk (IsS45.drew HI0.out); replace HK := Aside0.mk (keep_drew HK.out); replace HB := Aside0.mk (below_drew1 HB.out)
           refine start_ (n := 11) (S := fun w' => w'.cell? ⟨gb129, 0, none⟩ = some (u130000) ∧ w'.cell? ⟨gb129, 1, none⟩ = some (u130001)) (ds := [10]) #[ff,ff,ff,ff,ff,ff,ff,ff,ff,ff,ff] (by kernel_rfl) rfl rfl ⟨(blk_cell BK129.out 0).trans rfl, (blk_cell BK129.out 1).trans rfl⟩ (fun hHeld => ?_); refine with_tabW spec_someReport.tab11 spec_someReport.bits11 (fun HT_ HW_ => ?_)
           generalize wc.drew = w66 at HO_130000 HO_130001 BK122 BK129 HI0 HK HB hHeld ⊢
           refine pu_ 0 (some 51) (v := ?_) (a' := ?_) #[tt,ff,ff,ff,ff,ff,ff,ff,ff,ff,ff] HT_.out rfl rfl (by kernel_rfl) (fun _ _ _ h => h) (Or.inl ⟨by rfl, ?_⟩) ?_ ?_
           rotate_left
           ·intro w'
            go_simp
            with_reducible rfl
           rotate_left
           ·simp only [Act.put, ps_]
            rfl
           refine pu_ 2 (some 53) (v := ?_) (a' := ?_) #[tt,ff,tt,ff,ff,ff,ff,ff,ff,ff,ff] HT_.out rfl rfl (by kernel_rfl) (fun _ _ _ h => h) (Or.inl ⟨by rfl, ?_⟩) ?_ ?_
           rotate_left
           ·intro w'
            go_simp
            with_reducible rfl
           rotate_left
           ·simp only [Act.put, ps_]
            rfl
           refine pu_ 5 (some 56) (v := ?_) (a' := ?_) #[tt,ff,tt,ff,ff,tt,ff,ff,ff,ff,ff] HT_.out rfl rfl (by kernel_rfl) (fun _ _ _ h => h) (Or.inl ⟨by rfl, ?_⟩) ?_ ?_
           rotate_left
           ·intro w'
            go_simp
            with_reducible rfl
           rotate_left
           ·simp only [Act.put, ps_]
            rfl
           refine take_ (i := 1) (N := some 52) (v := ?_) (a' := ?_) #[tt,tt,tt,ff,ff,tt,ff,ff,ff,ff,ff] rfl rfl (take_ofW HT_.out HW_.out (by kernel_rfl)) (fun _ _ _ h => h) (Or.inl ⟨by rfl, ?_⟩) hHeld ?_ ?_
           rotate_left
           ·rintro w' ⟨s0, s1⟩
            go_simp
            with_reducible rfl
           rotate_left
           ·simp only [Act.put, ps_]
            rfl
           refine join_ (σ := Value × Value) 4 #[tt,tt,tt,tt,tt,tt,tt,ff,ff,ff,ff] (fun s_ => [(54, s_.1), (55, .string t163), (57, s_.2)]) (fun s_ w' => (w'.cell? ⟨gb129, 0, none⟩ = some (u130000) ∧ w'.cell? ⟨gb129, 1, none⟩ = some (u130001)) ∧ (Kd.R Kd.string 9 w' w.heap.size (fun k_ => some k_ ≠ (u130001 : Value).ownBlock) s_.1 y160) ∧ (Kd.R (Kd.int .i64) 3 w' w.heap.size (fun _ => True) s_.2 y165) ∧ (Kd.R k30 30 w' w.heap.size (fun _ => True) u130000 x130000_1) ∧ (Kd.R Kd.string 9 w' w.heap.size (fun k_ => some k_ ≠ (s_.1 : Value).ownBlock) u130001 x130001_2) ∧ (w'.heap[gb122]? = some (.cells #[.slice none 0 0, .slice none 0 0] 26 (0, 0))) ∧ (w'.heap[gb129]? = some (.cells #[u130000, u130001] 26 (0, 0))) ∧ (IsS45 w0 w' g s0_0 t164) ∧ (KeepBut w w' g none) ∧ (Below w0.heap.size w0 w')) ?_ ?_
           rotate_left
           ·intro hCont
            refine two_ (i := 3) (j := 6) (Ni := some 54) (Nj := some 57) #[tt,tt,tt,tt,ff,tt,ff,ff,ff,ff,ff] #[tt,tt,tt,ff,ff,tt,tt,ff,ff,ff,ff] rfl rfl rfl rfl (two_of HT_.out (by kernel_rfl)) (by decide) (by decide) (fun K hK => ?_) (fun K hK => ?_)
            ·skip
             refine Kd.R_lit_step Kd.string _ 9 ?hg (N := 54) ?hd (xs := ([(⟨#[109]⟩ : ByteArray), (⟨#[109, 46, 97, 46, 98]⟩ : ByteArray), (⟨#[77, 46, 97]⟩ : ByteArray)] : List ByteArray)) (inner := [.string (⟨#[109]⟩ : ByteArray), .string (⟨#[109, 46, 97, 46, 98]⟩ : ByteArray), .string (⟨#[77, 46, 97]⟩ : ByteArray)]) (ok := fun _ => True) (okp := fun _ => True) ?hr ?hp (fun _ hk => hk) trivial (Below.refl _ _) (Nat.le_refl _) (by simp) ?_; (case hd => rfl); (case hg => rfl); (case hr => first | (go_simp; done) | (go_simp; rfl)); (case hp => exact (Reps.one (show Kd.M Kd.string _ _ _ (⟨#[109]⟩ : ByteArray) [.string (⟨#[109]⟩ : ByteArray)] from rfl) (Reps.one (show Kd.M Kd.string _ _ _ (⟨#[109, 46, 97, 46, 98]⟩ : ByteArray) [.string (⟨#[109, 46, 97, 46, 98]⟩ : ByteArray)] from rfl) (Reps.one (show Kd.M Kd.string _ _ _ (⟨#[77, 46, 97]⟩ : ByteArray) [.string (⟨#[77, 46, 97]⟩ : ByteArray)] from rfl) (Reps.none _ _)))))
             intro v161 w67 ho68 hb hg_ hnew_
             clear hg_ hnew_
             (first | rw [← Ny160.out] at ho68 | (simp only [Int.reduceToNat] at ho68; rw [← Ny160.out] at ho68))
             have n0_ := Aside0.mk (Kd.R_below (by (with_reducible repeat first | apply Kd.R_alloc | apply Kd.R_drewN | apply Kd.R_drew); exact HO_130000.out) hb)
             have n1_ := Aside0.mk (Kd.R_elder' (by (with_reducible repeat first | apply Kd.R_alloc | apply Kd.R_drewN | apply Kd.R_drew); exact HO_130001.out) (Kd.R_base ho68) hb)
             have n2_ := Aside0.mk (Kd.R_lower (Kd.R_new' ho68 (Kd.R_lt (by (with_reducible repeat first | apply Kd.R_alloc | apply Kd.R_drewN | apply Kd.R_drew); exact HO_130001.out))) (keep_size (w := w) (g := g) (row := none) (by repeat first | (with_reducible first | exact HK.out | apply KeepBut.set_ | apply keep_drewN | apply keep_drew | apply keep_alloc | refine keep_far ?_ GW122.out _ | refine keep_far ?_ GW129.out _) | exact HK.out)))
             have n3_ := Aside0.mk (blk_below (g := gb122) (o := .cells #[.slice none 0 0, .slice none 0 0] 26 (0, 0)) (by (with_reducible repeat first | apply blk_drewN | apply blk_drew | apply blk_alloc); exact BK122.out) hb)
             have n4_ := Aside0.mk (blk_below (g := gb129) (o := .cells #[u130000, u130001] 26 (0, 0)) (by (with_reducible repeat first | apply blk_drewN | apply blk_drew | apply blk_alloc); exact BK129.out) hb)
             have n5_ := Aside0.mk (IsS45.below (by repeat first | (with_reducible first | exact HI0.out | apply IsS45.alloc | apply IsS45.drewN | apply IsS45.drew | apply IsS45.set_1 | refine IsS45.far ?_ NB0_122.out _ | refine IsS45.far ?_ NB0_129.out _) | exact HI0.out) hb); have n6_ := Aside0.mk (KeepBut.trans (by repeat first | (with_reducible first | exact HK.out | apply KeepBut.set_ | apply keep_drewN | apply keep_drew | apply keep_alloc | refine keep_far ?_ GW122.out _ | refine keep_far ?_ GW129.out _) | exact HK.out) (KeepBut.of_below hb g none) (.inl rfl)); have n7_ := Aside0.mk (below_step (by repeat first | (with_reducible first | exact HB.out | apply below_alloc | apply pw_below_drewN | apply below_drew1 | refine below_set ?_ (IsS45.ge HI0.out) | refine below_set ?_ GE122.out | refine below_set ?_ GE129.out) | exact HB.out) hb); clear HO_130000 HO_130001 BK122 BK129 HI0 HK HB; have HO_130000 := n0_; have HO_130001 := n1_; have HO162 := n2_; have BK122 := n3_; have BK129 := n4_; have HI0 := n5_; have HK := n6_; have HB := n7_; clear n0_ n1_ n2_ n3_ n4_ n5_ n6_ n7_ hb ho68
             obtain ⟨Ao69, co69, eo69⟩ := Kd.R_slice HO162.out
             (first | subst eo69 | (injection eo69 with f1_ f2_ f3_; have f4_ := f1_.symm; have f5_ := f3_.symm; clear f1_ f2_ f3_; subst f4_; subst f5_))
             refine hK.out _ _ ⟨(blk_cell BK129.out 0).trans rfl, (blk_cell BK129.out 1).trans rfl⟩ (fun hHeld => ?_)
             clear hK K
             refine norm_ (a' := ?_) ?_ ?_
             rotate_left
             ·show Act.put _ (some 54) _ = _
              simp only [Act.put, ps_]
              rfl
             refine two_ (i := 4) (j := 6) (Ni := some 55) (Nj := some 57) #[tt,tt,tt,tt,tt,tt,ff,ff,ff,ff,ff] #[tt,tt,tt,tt,ff,tt,tt,ff,ff,ff,ff] rfl rfl rfl rfl (two_of HT_.out (by kernel_rfl)) (by decide) (by decide) (fun K hK => ?_) (fun K hK => ?_)
             ·skip
              refine goes_ Tryd.func19 (by kernel_rfl) rfl #[.pointer (some ⟨g, 0, none⟩), .slice Ao69 y160.length co69] (by rfl) rfl rfl (by (try simp only [List.map_toArray, List.map_cons, List.map_nil]); first | done | rfl) ?_
              with_reducible refine (spec_reader_of.calls kj48 g s0_0 x1001_48 _ _ y160 t163 t164 w0 _ ?side1 ?side2 ?side3 ?side4 ?side5 A62.out).mono ?_
              (case side1 => repeat (first | (with_reducible first | exact HI0.out | apply IsS45.alloc | apply IsS45.drewN | apply IsS45.drew | apply IsS45.set_1 | refine IsS45.far ?_ NB0_122.out _ | refine IsS45.far ?_ NB0_129.out _) | exact HI0.out))
              (case side2 => repeat (first | (with_reducible first | exact HB.out | apply below_alloc | apply pw_below_drewN | apply below_drew1 | refine below_set ?_ (IsS45.ge HI0.out) | refine below_set ?_ GE122.out | refine below_set ?_ GE129.out) | exact HB.out))
              (case side3 => repeat (first | exact (Kd.R_reads' HO162.out).2.2 | with_reducible first | apply Kd.C_alloc | apply Kd.C_drewN | apply Kd.C_drew))
              (case side4 => exact (Kd.R_reads' HO162.out).2.1)
              (case side5 => exact far_slice (IsS45.own_ne HI0.out HO162.out (by decide)))
              rintro e w70 ⟨rfl, hi, hb, hk⟩
              refine ⟨_, rfl, ?_⟩
              have n0_ := Aside0.mk (Kd.R_mono (Kd.R_keep (IsS45.apart (show IsS45 w0 _ g s0_0 x1001_48 from by repeat (first | (with_reducible first | exact HI0.out | apply IsS45.alloc | apply IsS45.drewN | apply IsS45.drew | apply IsS45.set_1 | refine IsS45.far ?_ NB0_122.out _ | refine IsS45.far ?_ NB0_129.out _) | exact HI0.out)) (by (with_reducible repeat first | apply Kd.R_alloc | apply Kd.R_drewN | apply Kd.R_drew); exact HO_130000.out) (by decide)) hk (fun _ h => h.2)) (fun _ h => h.1))
              have n1_ := Aside0.mk (Kd.R_mono (Kd.R_keep (IsS45.apart (show IsS45 w0 _ g s0_0 x1001_48 from by repeat (first | (with_reducible first | exact HI0.out | apply IsS45.alloc | apply IsS45.drewN | apply IsS45.drew | apply IsS45.set_1 | refine IsS45.far ?_ NB0_122.out _ | refine IsS45.far ?_ NB0_129.out _) | exact HI0.out)) (by (with_reducible repeat first | apply Kd.R_alloc | apply Kd.R_drewN | apply Kd.R_drew); exact HO_130001.out) (by decide)) hk (fun _ h => h.2)) (fun _ h => h.1))
              have n2_ := Aside0.mk (KeepBut.blk hk (g' := gb122) (o := .cells #[.slice none 0 0, .slice none 0 0] 26 (0, 0)) (by (with_reducible repeat first | apply blk_drewN | apply blk_drew | apply blk_alloc); exact BK122.out) NB122_0.out (by simp))
              have n3_ := Aside0.mk (KeepBut.blk hk (g' := gb129) (o := .cells #[u130000, u130001] 26 (0, 0)) (by (with_reducible repeat first | apply blk_drewN | apply blk_drew | apply blk_alloc); exact BK129.out) NB129_0.out (by simp))
              have n4_ := Aside0.mk (Kd.R_mono (Kd.R_keep (IsS45.apart (show IsS45 w0 _ g s0_0 x1001_48 from by repeat (first | (with_reducible first | exact HI0.out | apply IsS45.alloc | apply IsS45.drewN | apply IsS45.drew | apply IsS45.set_1 | refine IsS45.far ?_ NB0_122.out _ | refine IsS45.far ?_ NB0_129.out _) | exact HI0.out)) (by (with_reducible repeat first | apply Kd.R_alloc | apply Kd.R_drewN | apply Kd.R_drew); exact HO162.out) (by decide)) hk (fun _ h => h.2)) (fun _ h => h.1))
              have n5_ := Aside0.mk (KeepBut.trans (by repeat first | (with_reducible first | exact HK.out | apply KeepBut.set_ | apply keep_drewN | apply keep_drew | apply keep_alloc | refine keep_far ?_ GW122.out _ | refine keep_far ?_ GW129.out _) | exact HK.out) hk (.inl rfl)); have n6_ := Aside0.mk (hb); have n7_ := Aside0.mk (hi); clear HO_130000 HO_130001 BK122 BK129 HO162 HK HB HI0; have HO_130000 := n0_; have HO_130001 := n1_; have BK122 := n2_; have BK129 := n3_; have HO162 := n4_; have HK := n5_; have HB := n6_; have HI0 := n7_; clear n0_ n1_ n2_ n3_ n4_ n5_ n6_ n7_
              (try clear hb)
              (try clear hb2)
              (try clear hk)
              (try clear hi)
              refine hK.out _ _ ⟨(blk_cell BK129.out 0).trans rfl, (blk_cell BK129.out 1).trans rfl⟩ (fun hHeld => ?_)
              clear hK K
              refine norm_ (a' := ?_) ?_ ?_
              rotate_left
              ·show Act.put _ (some 55) _ = _
               simp only [Act.put, ps_]
               rfl
              refine one_ (i := 6) (N := some 57) #[tt,tt,tt,tt,tt,tt,tt,ff,ff,ff,ff] rfl rfl (one_of HT_.out (by kernel_rfl)) (by decide) (fun K hK => ?_)
              refine Kd.R_lit_step (Kd.int .i64) _ 3 ?hg (N := 57) ?hd (xs := ([0, 6, (-1)] : List Int)) (inner := [.int .i64 0, .int .i64 6, .int .i64 (-1)]) (ok := fun _ => True) (okp := fun _ => True) ?hr ?hp (fun _ hk => hk) trivial (Below.refl _ _) (Nat.le_refl _) (by simp) ?_; (case hd => rfl); (case hg => rfl); (case hr => first | (go_simp; done) | (go_simp; rfl)); (case hp => exact (Reps.one (show Kd.M (Kd.int .i64) _ _ _ 0 [.int .i64 0] from rfl) (Reps.one (show Kd.M (Kd.int .i64) _ _ _ 6 [.int .i64 6] from rfl) (Reps.one (show Kd.M (Kd.int .i64) _ _ _ (-1) [.int .i64 (-1)] from rfl) (Reps.none _ _)))))
              intro v166 w71 ho72 hb hg_ hnew_
              clear hg_ hnew_
              (first | rw [← Ny165.out] at ho72 | (simp only [Int.reduceToNat] at ho72; rw [← Ny165.out] at ho72))
              have n0_ := Aside0.mk (Kd.R_below (by (with_reducible repeat first | apply Kd.R_alloc | apply Kd.R_drewN | apply Kd.R_drew); exact HO_130000.out) hb)
              have n1_ := Aside0.mk (Kd.R_below (by (with_reducible repeat first | apply Kd.R_alloc | apply Kd.R_drewN | apply Kd.R_drew); exact HO_130001.out) hb)
              have n2_ := Aside0.mk (Kd.R_below (by (with_reducible repeat first | apply Kd.R_alloc | apply Kd.R_drewN | apply Kd.R_drew); exact HO162.out) hb)
              have n3_ := Aside0.mk (Kd.R_lower ho72 (keep_size (w := w) (g := g) (row := none) (by repeat first | (with_reducible first | exact HK.out | apply KeepBut.set_ | apply keep_drewN | apply keep_drew | apply keep_alloc | refine keep_far ?_ GW122.out _ | refine keep_far ?_ GW129.out _) | exact HK.out)))
              have n4_ := Aside0.mk (blk_below (g := gb122) (o := .cells #[.slice none 0 0, .slice none 0 0] 26 (0, 0)) (by (with_reducible repeat first | apply blk_drewN | apply blk_drew | apply blk_alloc); exact BK122.out) hb)
              have n5_ := Aside0.mk (blk_below (g := gb129) (o := .cells #[u130000, u130001] 26 (0, 0)) (by (with_reducible repeat first | apply blk_drewN | apply blk_drew | apply blk_alloc); exact BK129.out) hb)
              have n6_ := Aside0.mk (IsS45.below (by repeat first | (with_reducible first | exact HI0.out | apply IsS45.alloc | apply IsS45.drewN | apply IsS45.drew | apply IsS45.set_1 | refine IsS45.far ?_ NB0_122.out _ | refine IsS45.far ?_ NB0_129.out _) | exact HI0.out) hb); have n7_ := Aside0.mk (KeepBut.trans (by repeat first | (with_reducible first | exact HK.out | apply KeepBut.set_ | apply keep_drewN | apply keep_drew | apply keep_alloc | refine keep_far ?_ GW122.out _ | refine keep_far ?_ GW129.out _) | exact HK.out) (KeepBut.of_below hb g none) (.inl rfl)); have n8_ := Aside0.mk (below_step (by repeat first | (with_reducible first | exact HB.out | apply below_alloc | apply pw_below_drewN | apply below_drew1 | refine below_set ?_ (IsS45.ge HI0.out) | refine below_set ?_ GE122.out | refine below_set ?_ GE129.out) | exact HB.out) hb); clear HO_130000 HO_130001 HO162 BK122 BK129 HI0 HK HB; have HO_130000 := n0_; have HO_130001 := n1_; have HO162 := n2_; have HO167 := n3_; have BK122 := n4_; have BK129 := n5_; have HI0 := n6_; have HK := n7_; have HB := n8_; clear n0_ n1_ n2_ n3_ n4_ n5_ n6_ n7_ n8_ hb ho72
              refine hK.out _ _ ⟨(blk_cell BK129.out 0).trans rfl, (blk_cell BK129.out 1).trans rfl⟩ (fun hHeld => ?_)
              clear hK K
              refine norm_ (a' := ?_) ?_ ?_
              rotate_left
              ·show Act.put _ (some 57) _ = _
               simp only [Act.put, ps_]
               rfl
              exact norm_ (by simp only [putAll, Act.put, List.setIfInBounds_toArray, List.set_cons_zero, List.set_cons_succ]) (hCont (.slice Ao69 y160.length co69, v166) _ ⟨hHeld, (by (with_reducible repeat first | apply Kd.R_alloc | apply Kd.R_drewN | apply Kd.R_drew); exact Kd.R_mono HO162.out (fun _ hk => hk.2)), (by (with_reducible repeat first | apply Kd.R_alloc | apply Kd.R_drewN | apply Kd.R_drew); exact HO167.out), (by (with_reducible repeat first | apply Kd.R_alloc | apply Kd.R_drewN | apply Kd.R_drew); exact HO_130000.out), (by (with_reducible repeat first | apply Kd.R_alloc | apply Kd.R_drewN | apply Kd.R_drew); exact Kd.R_mono HO_130001.out (fun _ hk => hk.2)), (by (with_reducible repeat first | apply blk_drewN | apply blk_drew | apply blk_alloc); exact BK122.out), (by (with_reducible repeat first | apply blk_drewN | apply blk_drew | apply blk_alloc); exact BK129.out), (by repeat first | (with_reducible first | exact HI0.out | apply IsS45.alloc | apply IsS45.drewN | apply IsS45.drew | apply IsS45.set_1 | refine IsS45.far ?_ NB0_122.out _ | refine IsS45.far ?_ NB0_129.out _) | exact HI0.out), (by repeat first | (with_reducible first | exact HK.out | apply KeepBut.set_ | apply keep_drewN | apply keep_drew | apply keep_alloc | refine keep_far ?_ GW122.out _ | refine keep_far ?_ GW129.out _) | exact HK.out), (by repeat first | (with_reducible first | exact HB.out | apply below_alloc | apply pw_below_drewN | apply below_drew1 | refine below_set ?_ (IsS45.ge HI0.out) | refine below_set ?_ GE122.out | refine below_set ?_ GE129.out) | exact HB.out)⟩)
             ·skip
              refine Kd.R_lit_step (Kd.int .i64) _ 3 ?hg (N := 57) ?hd (xs := ([0, 6, (-1)] : List Int)) (inner := [.int .i64 0, .int .i64 6, .int .i64 (-1)]) (ok := fun _ => True) (okp := fun _ => True) ?hr ?hp (fun _ hk => hk) trivial (Below.refl _ _) (Nat.le_refl _) (by simp) ?_; (case hd => rfl); (case hg => rfl); (case hr => first | (go_simp; done) | (go_simp; rfl)); (case hp => exact (Reps.one (show Kd.M (Kd.int .i64) _ _ _ 0 [.int .i64 0] from rfl) (Reps.one (show Kd.M (Kd.int .i64) _ _ _ 6 [.int .i64 6] from rfl) (Reps.one (show Kd.M (Kd.int .i64) _ _ _ (-1) [.int .i64 (-1)] from rfl) (Reps.none _ _)))))
              intro v166 w69 ho70 hb hg_ hnew_
              clear hg_ hnew_
              (first | rw [← Ny165.out] at ho70 | (simp only [Int.reduceToNat] at ho70; rw [← Ny165.out] at ho70))
              have n0_ := Aside0.mk (Kd.R_below (by (with_reducible repeat first | apply Kd.R_alloc | apply Kd.R_drewN | apply Kd.R_drew); exact HO_130000.out) hb)
              have n1_ := Aside0.mk (Kd.R_below (by (with_reducible repeat first | apply Kd.R_alloc | apply Kd.R_drewN | apply Kd.R_drew); exact HO_130001.out) hb)
              have n2_ := Aside0.mk (Kd.R_below (by (with_reducible repeat first | apply Kd.R_alloc | apply Kd.R_drewN | apply Kd.R_drew); exact HO162.out) hb)
              have n3_ := Aside0.mk (Kd.R_lower ho70 (keep_size (w := w) (g := g) (row := none) (by repeat first | (with_reducible first | exact HK.out | apply KeepBut.set_ | apply keep_drewN | apply keep_drew | apply keep_alloc | refine keep_far ?_ GW122.out _ | refine keep_far ?_ GW129.out _) | exact HK.out)))
              have n4_ := Aside0.mk (blk_below (g := gb122) (o := .cells #[.slice none 0 0, .slice none 0 0] 26 (0, 0)) (by (with_reducible repeat first | apply blk_drewN | apply blk_drew | apply blk_alloc); exact BK122.out) hb)
              have n5_ := Aside0.mk (blk_below (g := gb129) (o := .cells #[u130000, u130001] 26 (0, 0)) (by (with_reducible repeat first | apply blk_drewN | apply blk_drew | apply blk_alloc); exact BK129.out) hb)
              have n6_ := Aside0.mk (IsS45.below (by repeat first | (with_reducible first | exact HI0.out | apply IsS45.alloc | apply IsS45.drewN | apply IsS45.drew | apply IsS45.set_1 | refine IsS45.far ?_ NB0_122.out _ | refine IsS45.far ?_ NB0_129.out _) | exact HI0.out) hb); have n7_ := Aside0.mk (KeepBut.trans (by repeat first | (with_reducible first | exact HK.out | apply KeepBut.set_ | apply keep_drewN | apply keep_drew | apply keep_alloc | refine keep_far ?_ GW122.out _ | refine keep_far ?_ GW129.out _) | exact HK.out) (KeepBut.of_below hb g none) (.inl rfl)); have n8_ := Aside0.mk (below_step (by repeat first | (with_reducible first | exact HB.out | apply below_alloc | apply pw_below_drewN | apply below_drew1 | refine below_set ?_ (IsS45.ge HI0.out) | refine below_set ?_ GE122.out | refine below_set ?_ GE129.out) | exact HB.out) hb); clear HO_130000 HO_130001 HO162 BK122 BK129 HI0 HK HB; have HO_130000 := n0_; have HO_130001 := n1_; have HO162 := n2_; have HO167 := n3_; have BK122 := n4_; have BK129 := n5_; have HI0 := n6_; have HK := n7_; have HB := n8_; clear n0_ n1_ n2_ n3_ n4_ n5_ n6_ n7_ n8_ hb ho70
              obtain ⟨Ao71, co71, eo71⟩ := Kd.R_slice HO162.out
              (first | subst eo71 | (injection eo71 with f1_ f2_ f3_; have f4_ := f1_.symm; have f5_ := f3_.symm; clear f1_ f2_ f3_; subst f4_; subst f5_))
              refine hK.out _ _ ⟨(blk_cell BK129.out 0).trans rfl, (blk_cell BK129.out 1).trans rfl⟩ (fun hHeld => ?_)
              clear hK K
              refine norm_ (a' := ?_) ?_ ?_
              rotate_left
              ·show Act.put _ (some 57) _ = _
               simp only [Act.put, ps_]
               rfl
              refine one_ (i := 4) (N := some 55) #[tt,tt,tt,tt,tt,tt,tt,ff,ff,ff,ff] rfl rfl (one_of HT_.out (by kernel_rfl)) (by decide) (fun K hK => ?_)
              refine goes_ Tryd.func19 (by kernel_rfl) rfl #[.pointer (some ⟨g, 0, none⟩), .slice Ao71 y160.length co71] (by rfl) rfl rfl (by (try simp only [List.map_toArray, List.map_cons, List.map_nil]); first | done | rfl) ?_
              with_reducible refine (spec_reader_of.calls kj48 g s0_0 x1001_48 _ _ y160 t163 t164 w0 _ ?side1 ?side2 ?side3 ?side4 ?side5 A62.out).mono ?_
              (case side1 => repeat (first | (with_reducible first | exact HI0.out | apply IsS45.alloc | apply IsS45.drewN | apply IsS45.drew | apply IsS45.set_1 | refine IsS45.far ?_ NB0_122.out _ | refine IsS45.far ?_ NB0_129.out _) | exact HI0.out))
              (case side2 => repeat (first | (with_reducible first | exact HB.out | apply below_alloc | apply pw_below_drewN | apply below_drew1 | refine below_set ?_ (IsS45.ge HI0.out) | refine below_set ?_ GE122.out | refine below_set ?_ GE129.out) | exact HB.out))
              (case side3 => repeat (first | exact (Kd.R_reads' HO162.out).2.2 | with_reducible first | apply Kd.C_alloc | apply Kd.C_drewN | apply Kd.C_drew))
              (case side4 => exact (Kd.R_reads' HO162.out).2.1)
              (case side5 => exact far_slice (IsS45.own_ne HI0.out HO162.out (by decide)))
              rintro e w72 ⟨rfl, hi, hb, hk⟩
              refine ⟨_, rfl, ?_⟩
              have n0_ := Aside0.mk (Kd.R_mono (Kd.R_keep (IsS45.apart (show IsS45 w0 _ g s0_0 x1001_48 from by repeat (first | (with_reducible first | exact HI0.out | apply IsS45.alloc | apply IsS45.drewN | apply IsS45.drew | apply IsS45.set_1 | refine IsS45.far ?_ NB0_122.out _ | refine IsS45.far ?_ NB0_129.out _) | exact HI0.out)) (by (with_reducible repeat first | apply Kd.R_alloc | apply Kd.R_drewN | apply Kd.R_drew); exact HO_130000.out) (by decide)) hk (fun _ h => h.2)) (fun _ h => h.1))
              have n1_ := Aside0.mk (Kd.R_mono (Kd.R_keep (IsS45.apart (show IsS45 w0 _ g s0_0 x1001_48 from by repeat (first | (with_reducible first | exact HI0.out | apply IsS45.alloc | apply IsS45.drewN | apply IsS45.drew | apply IsS45.set_1 | refine IsS45.far ?_ NB0_122.out _ | refine IsS45.far ?_ NB0_129.out _) | exact HI0.out)) (by (with_reducible repeat first | apply Kd.R_alloc | apply Kd.R_drewN | apply Kd.R_drew); exact HO_130001.out) (by decide)) hk (fun _ h => h.2)) (fun _ h => h.1))
              have n2_ := Aside0.mk (KeepBut.blk hk (g' := gb122) (o := .cells #[.slice none 0 0, .slice none 0 0] 26 (0, 0)) (by (with_reducible repeat first | apply blk_drewN | apply blk_drew | apply blk_alloc); exact BK122.out) NB122_0.out (by simp))
              have n3_ := Aside0.mk (KeepBut.blk hk (g' := gb129) (o := .cells #[u130000, u130001] 26 (0, 0)) (by (with_reducible repeat first | apply blk_drewN | apply blk_drew | apply blk_alloc); exact BK129.out) NB129_0.out (by simp))
              have n4_ := Aside0.mk (Kd.R_mono (Kd.R_keep (IsS45.apart (show IsS45 w0 _ g s0_0 x1001_48 from by repeat (first | (with_reducible first | exact HI0.out | apply IsS45.alloc | apply IsS45.drewN | apply IsS45.drew | apply IsS45.set_1 | refine IsS45.far ?_ NB0_122.out _ | refine IsS45.far ?_ NB0_129.out _) | exact HI0.out)) (by (with_reducible repeat first | apply Kd.R_alloc | apply Kd.R_drewN | apply Kd.R_drew); exact HO162.out) (by decide)) hk (fun _ h => h.2)) (fun _ h => h.1))
              have n5_ := Aside0.mk (Kd.R_mono (Kd.R_keep (IsS45.apart (show IsS45 w0 _ g s0_0 x1001_48 from by repeat (first | (with_reducible first | exact HI0.out | apply IsS45.alloc | apply IsS45.drewN | apply IsS45.drew | apply IsS45.set_1 | refine IsS45.far ?_ NB0_122.out _ | refine IsS45.far ?_ NB0_129.out _) | exact HI0.out)) (by (with_reducible repeat first | apply Kd.R_alloc | apply Kd.R_drewN | apply Kd.R_drew); exact HO167.out) (by decide)) hk (fun _ h => h.2)) (fun _ h => h.1))
              have n6_ := Aside0.mk (KeepBut.trans (by repeat first | (with_reducible first | exact HK.out | apply KeepBut.set_ | apply keep_drewN | apply keep_drew | apply keep_alloc | refine keep_far ?_ GW122.out _ | refine keep_far ?_ GW129.out _) | exact HK.out) hk (.inl rfl)); have n7_ := Aside0.mk (hb); have n8_ := Aside0.mk (hi); clear HO_130000 HO_130001 BK122 BK129 HO162 HO167 HK HB HI0; have HO_130000 := n0_; have HO_130001 := n1_; have BK122 := n2_; have BK129 := n3_; have HO162 := n4_; have HO167 := n5_; have HK := n6_; have HB := n7_; have HI0 := n8_; clear n0_ n1_ n2_ n3_ n4_ n5_ n6_ n7_ n8_
              (try clear hb)
              (try clear hb2)
              (try clear hk)
              (try clear hi)
              refine hK.out _ _ ⟨(blk_cell BK129.out 0).trans rfl, (blk_cell BK129.out 1).trans rfl⟩ (fun hHeld => ?_)
              clear hK K
              refine norm_ (a' := ?_) ?_ ?_
              rotate_left
              ·show Act.put _ (some 55) _ = _
               simp only [Act.put, ps_]
               rfl
              exact norm_ (by simp only [putAll, Act.put, List.setIfInBounds_toArray, List.set_cons_zero, List.set_cons_succ]) (hCont (.slice Ao71 y160.length co71, v166) _ ⟨hHeld, (by (with_reducible repeat first | apply Kd.R_alloc | apply Kd.R_drewN | apply Kd.R_drew); exact Kd.R_mono HO162.out (fun _ hk => hk.2)), (by (with_reducible repeat first | apply Kd.R_alloc | apply Kd.R_drewN | apply Kd.R_drew); exact HO167.out), (by (with_reducible repeat first | apply Kd.R_alloc | apply Kd.R_drewN | apply Kd.R_drew); exact HO_130000.out), (by (with_reducible repeat first | apply Kd.R_alloc | apply Kd.R_drewN | apply Kd.R_drew); exact Kd.R_mono HO_130001.out (fun _ hk => hk.2)), (by (with_reducible repeat first | apply blk_drewN | apply blk_drew | apply blk_alloc); exact BK122.out), (by (with_reducible repeat first | apply blk_drewN | apply blk_drew | apply blk_alloc); exact BK129.out), (by repeat first | (with_reducible first | exact HI0.out | apply IsS45.alloc | apply IsS45.drewN | apply IsS45.drew | apply IsS45.set_1 | refine IsS45.far ?_ NB0_122.out _ | refine IsS45.far ?_ NB0_129.out _) | exact HI0.out), (by repeat first | (with_reducible first | exact HK.out | apply KeepBut.set_ | apply keep_drewN | apply keep_drew | apply keep_alloc | refine keep_far ?_ GW122.out _ | refine keep_far ?_ GW129.out _) | exact HK.out), (by repeat first | (with_reducible first | exact HB.out | apply below_alloc | apply pw_below_drewN | apply below_drew1 | refine below_set ?_ (IsS45.ge HI0.out) | refine below_set ?_ GE122.out | refine below_set ?_ GE129.out) | exact HB.out)⟩)
            ·skip
             refine Kd.R_lit_step (Kd.int .i64) _ 3 ?hg (N := 57) ?hd (xs := ([0, 6, (-1)] : List Int)) (inner := [.int .i64 0, .int .i64 6, .int .i64 (-1)]) (ok := fun _ => True) (okp := fun _ => True) ?hr ?hp (fun _ hk => hk) trivial (Below.refl _ _) (Nat.le_refl _) (by simp) ?_; (case hd => rfl); (case hg => rfl); (case hr => first | (go_simp; done) | (go_simp; rfl)); (case hp => exact (Reps.one (show Kd.M (Kd.int .i64) _ _ _ 0 [.int .i64 0] from rfl) (Reps.one (show Kd.M (Kd.int .i64) _ _ _ 6 [.int .i64 6] from rfl) (Reps.one (show Kd.M (Kd.int .i64) _ _ _ (-1) [.int .i64 (-1)] from rfl) (Reps.none _ _)))))
             intro v166 w67 ho68 hb hg_ hnew_
             clear hg_ hnew_
             (first | rw [← Ny165.out] at ho68 | (simp only [Int.reduceToNat] at ho68; rw [← Ny165.out] at ho68))
             have n0_ := Aside0.mk (Kd.R_below (by (with_reducible repeat first | apply Kd.R_alloc | apply Kd.R_drewN | apply Kd.R_drew); exact HO_130000.out) hb)
             have n1_ := Aside0.mk (Kd.R_below (by (with_reducible repeat first | apply Kd.R_alloc | apply Kd.R_drewN | apply Kd.R_drew); exact HO_130001.out) hb)
             have n2_ := Aside0.mk (Kd.R_lower ho68 (keep_size (w := w) (g := g) (row := none) (by repeat first | (with_reducible first | exact HK.out | apply KeepBut.set_ | apply keep_drewN | apply keep_drew | apply keep_alloc | refine keep_far ?_ GW122.out _ | refine keep_far ?_ GW129.out _) | exact HK.out)))
             have n3_ := Aside0.mk (blk_below (g := gb122) (o := .cells #[.slice none 0 0, .slice none 0 0] 26 (0, 0)) (by (with_reducible repeat first | apply blk_drewN | apply blk_drew | apply blk_alloc); exact BK122.out) hb)
             have n4_ := Aside0.mk (blk_below (g := gb129) (o := .cells #[u130000, u130001] 26 (0, 0)) (by (with_reducible repeat first | apply blk_drewN | apply blk_drew | apply blk_alloc); exact BK129.out) hb)
             have n5_ := Aside0.mk (IsS45.below (by repeat first | (with_reducible first | exact HI0.out | apply IsS45.alloc | apply IsS45.drewN | apply IsS45.drew | apply IsS45.set_1 | refine IsS45.far ?_ NB0_122.out _ | refine IsS45.far ?_ NB0_129.out _) | exact HI0.out) hb); have n6_ := Aside0.mk (KeepBut.trans (by repeat first | (with_reducible first | exact HK.out | apply KeepBut.set_ | apply keep_drewN | apply keep_drew | apply keep_alloc | refine keep_far ?_ GW122.out _ | refine keep_far ?_ GW129.out _) | exact HK.out) (KeepBut.of_below hb g none) (.inl rfl)); have n7_ := Aside0.mk (below_step (by repeat first | (with_reducible first | exact HB.out | apply below_alloc | apply pw_below_drewN | apply below_drew1 | refine below_set ?_ (IsS45.ge HI0.out) | refine below_set ?_ GE122.out | refine below_set ?_ GE129.out) | exact HB.out) hb); clear HO_130000 HO_130001 BK122 BK129 HI0 HK HB; have HO_130000 := n0_; have HO_130001 := n1_; have HO167 := n2_; have BK122 := n3_; have BK129 := n4_; have HI0 := n5_; have HK := n6_; have HB := n7_; clear n0_ n1_ n2_ n3_ n4_ n5_ n6_ n7_ hb ho68
             refine hK.out _ _ ⟨(blk_cell BK129.out 0).trans rfl, (blk_cell BK129.out 1).trans rfl⟩ (fun hHeld => ?_)
             clear hK K
             refine norm_ (a' := ?_) ?_ ?_
             rotate_left
             ·show Act.put _ (some 57) _ = _
              simp only [Act.put, ps_]
              rfl
             refine one_ (i := 3) (N := some 54) #[tt,tt,tt,tt,ff,tt,tt,ff,ff,ff,ff] rfl rfl (one_of HT_.out (by kernel_rfl)) (by decide) (fun K hK => ?_)
             refine Kd.R_lit_step Kd.string _ 9 ?hg (N := 54) ?hd (xs := ([(⟨#[109]⟩ : ByteArray), (⟨#[109, 46, 97, 46, 98]⟩ : ByteArray), (⟨#[77, 46, 97]⟩ : ByteArray)] : List ByteArray)) (inner := [.string (⟨#[109]⟩ : ByteArray), .string (⟨#[109, 46, 97, 46, 98]⟩ : ByteArray), .string (⟨#[77, 46, 97]⟩ : ByteArray)]) (ok := fun _ => True) (okp := fun _ => True) ?hr ?hp (fun _ hk => hk) trivial (Below.refl _ _) (Nat.le_refl _) (by simp) ?_; (case hd => rfl); (case hg => rfl); (case hr => first | (go_simp; done) | (go_simp; rfl)); (case hp => exact (Reps.one (show Kd.M Kd.string _ _ _ (⟨#[109]⟩ : ByteArray) [.string (⟨#[109]⟩ : ByteArray)] from rfl) (Reps.one (show Kd.M Kd.string _ _ _ (⟨#[109, 46, 97, 46, 98]⟩ : ByteArray) [.string (⟨#[109, 46, 97, 46, 98]⟩ : ByteArray)] from rfl) (Reps.one (show Kd.M Kd.string _ _ _ (⟨#[77, 46, 97]⟩ : ByteArray) [.string (⟨#[77, 46, 97]⟩ : ByteArray)] from rfl) (Reps.none _ _)))))
             intro v161 w69 ho70 hb hg_ hnew_
             clear hg_ hnew_
             (first | rw [← Ny160.out] at ho70 | (simp only [Int.reduceToNat] at ho70; rw [← Ny160.out] at ho70))
             have n0_ := Aside0.mk (Kd.R_below (by (with_reducible repeat first | apply Kd.R_alloc | apply Kd.R_drewN | apply Kd.R_drew); exact HO_130000.out) hb)
             have n1_ := Aside0.mk (Kd.R_elder' (by (with_reducible repeat first | apply Kd.R_alloc | apply Kd.R_drewN | apply Kd.R_drew); exact HO_130001.out) (Kd.R_base ho70) hb)
             have n2_ := Aside0.mk (Kd.R_below (by (with_reducible repeat first | apply Kd.R_alloc | apply Kd.R_drewN | apply Kd.R_drew); exact HO167.out) hb)
             have n3_ := Aside0.mk (Kd.R_lower (Kd.R_new' ho70 (Kd.R_lt (by (with_reducible repeat first | apply Kd.R_alloc | apply Kd.R_drewN | apply Kd.R_drew); exact HO_130001.out))) (keep_size (w := w) (g := g) (row := none) (by repeat first | (with_reducible first | exact HK.out | apply KeepBut.set_ | apply keep_drewN | apply keep_drew | apply keep_alloc | refine keep_far ?_ GW122.out _ | refine keep_far ?_ GW129.out _) | exact HK.out)))
             have n4_ := Aside0.mk (blk_below (g := gb122) (o := .cells #[.slice none 0 0, .slice none 0 0] 26 (0, 0)) (by (with_reducible repeat first | apply blk_drewN | apply blk_drew | apply blk_alloc); exact BK122.out) hb)
             have n5_ := Aside0.mk (blk_below (g := gb129) (o := .cells #[u130000, u130001] 26 (0, 0)) (by (with_reducible repeat first | apply blk_drewN | apply blk_drew | apply blk_alloc); exact BK129.out) hb)
             have n6_ := Aside0.mk (IsS45.below (by repeat first | (with_reducible first | exact HI0.out | apply IsS45.alloc | apply IsS45.drewN | apply IsS45.drew | apply IsS45.set_1 | refine IsS45.far ?_ NB0_122.out _ | refine IsS45.far ?_ NB0_129.out _) | exact HI0.out) hb); have n7_ := Aside0.mk (KeepBut.trans (by repeat first | (with_reducible first | exact HK.out | apply KeepBut.set_ | apply keep_drewN | apply keep_drew | apply keep_alloc | refine keep_far ?_ GW122.out _ | refine keep_far ?_ GW129.out _) | exact HK.out) (KeepBut.of_below hb g none) (.inl rfl)); have n8_ := Aside0.mk (below_step (by repeat first | (with_reducible first | exact HB.out | apply below_alloc | apply pw_below_drewN | apply below_drew1 | refine below_set ?_ (IsS45.ge HI0.out) | refine below_set ?_ GE122.out | refine below_set ?_ GE129.out) | exact HB.out) hb); clear HO_130000 HO_130001 HO167 BK122 BK129 HI0 HK HB; have HO_130000 := n0_; have HO_130001 := n1_; have HO167 := n2_; have HO162 := n3_; have BK122 := n4_; have BK129 := n5_; have HI0 := n6_; have HK := n7_; have HB := n8_; clear n0_ n1_ n2_ n3_ n4_ n5_ n6_ n7_ n8_ hb ho70
             obtain ⟨Ao71, co71, eo71⟩ := Kd.R_slice HO162.out
             (first | subst eo71 | (injection eo71 with f1_ f2_ f3_; have f4_ := f1_.symm; have f5_ := f3_.symm; clear f1_ f2_ f3_; subst f4_; subst f5_))
             refine hK.out _ _ ⟨(blk_cell BK129.out 0).trans rfl, (blk_cell BK129.out 1).trans rfl⟩ (fun hHeld => ?_)
             clear hK K
             refine norm_ (a' := ?_) ?_ ?_
             rotate_left
             ·show Act.put _ (some 54) _ = _
              simp only [Act.put, ps_]
              rfl
             refine one_ (i := 4) (N := some 55) #[tt,tt,tt,tt,tt,tt,tt,ff,ff,ff,ff] rfl rfl (one_of HT_.out (by kernel_rfl)) (by decide) (fun K hK => ?_)
             refine goes_ Tryd.func19 (by kernel_rfl) rfl #[.pointer (some ⟨g, 0, none⟩), .slice Ao71 y160.length co71] (by rfl) rfl rfl (by (try simp only [List.map_toArray, List.map_cons, List.map_nil]); first | done | rfl) ?_
             with_reducible refine (spec_reader_of.calls kj48 g s0_0 x1001_48 _ _ y160 t163 t164 w0 _ ?side1 ?side2 ?side3 ?side4 ?side5 A62.out).mono ?_
             (case side1 => repeat (first | (with_reducible first | exact HI0.out | apply IsS45.alloc | apply IsS45.drewN | apply IsS45.drew | apply IsS45.set_1 | refine IsS45.far ?_ NB0_122.out _ | refine IsS45.far ?_ NB0_129.out _) | exact HI0.out))
             (case side2 => repeat (first | (with_reducible first | exact HB.out | apply below_alloc | apply pw_below_drewN | apply below_drew1 | refine below_set ?_ (IsS45.ge HI0.out) | refine below_set ?_ GE122.out | refine below_set ?_ GE129.out) | exact HB.out))
             (case side3 => repeat (first | exact (Kd.R_reads' HO162.out).2.2 | with_reducible first | apply Kd.C_alloc | apply Kd.C_drewN | apply Kd.C_drew))
             (case side4 => exact (Kd.R_reads' HO162.out).2.1)
             (case side5 => exact far_slice (IsS45.own_ne HI0.out HO162.out (by decide)))
             rintro e w72 ⟨rfl, hi, hb, hk⟩
             refine ⟨_, rfl, ?_⟩
             have n0_ := Aside0.mk (Kd.R_mono (Kd.R_keep (IsS45.apart (show IsS45 w0 _ g s0_0 x1001_48 from by repeat (first | (with_reducible first | exact HI0.out | apply IsS45.alloc | apply IsS45.drewN | apply IsS45.drew | apply IsS45.set_1 | refine IsS45.far ?_ NB0_122.out _ | refine IsS45.far ?_ NB0_129.out _) | exact HI0.out)) (by (with_reducible repeat first | apply Kd.R_alloc | apply Kd.R_drewN | apply Kd.R_drew); exact HO_130000.out) (by decide)) hk (fun _ h => h.2)) (fun _ h => h.1))
             have n1_ := Aside0.mk (Kd.R_mono (Kd.R_keep (IsS45.apart (show IsS45 w0 _ g s0_0 x1001_48 from by repeat (first | (with_reducible first | exact HI0.out | apply IsS45.alloc | apply IsS45.drewN | apply IsS45.drew | apply IsS45.set_1 | refine IsS45.far ?_ NB0_122.out _ | refine IsS45.far ?_ NB0_129.out _) | exact HI0.out)) (by (with_reducible repeat first | apply Kd.R_alloc | apply Kd.R_drewN | apply Kd.R_drew); exact HO_130001.out) (by decide)) hk (fun _ h => h.2)) (fun _ h => h.1))
             have n2_ := Aside0.mk (KeepBut.blk hk (g' := gb122) (o := .cells #[.slice none 0 0, .slice none 0 0] 26 (0, 0)) (by (with_reducible repeat first | apply blk_drewN | apply blk_drew | apply blk_alloc); exact BK122.out) NB122_0.out (by simp))
             have n3_ := Aside0.mk (KeepBut.blk hk (g' := gb129) (o := .cells #[u130000, u130001] 26 (0, 0)) (by (with_reducible repeat first | apply blk_drewN | apply blk_drew | apply blk_alloc); exact BK129.out) NB129_0.out (by simp))
             have n4_ := Aside0.mk (Kd.R_mono (Kd.R_keep (IsS45.apart (show IsS45 w0 _ g s0_0 x1001_48 from by repeat (first | (with_reducible first | exact HI0.out | apply IsS45.alloc | apply IsS45.drewN | apply IsS45.drew | apply IsS45.set_1 | refine IsS45.far ?_ NB0_122.out _ | refine IsS45.far ?_ NB0_129.out _) | exact HI0.out)) (by (with_reducible repeat first | apply Kd.R_alloc | apply Kd.R_drewN | apply Kd.R_drew); exact HO167.out) (by decide)) hk (fun _ h => h.2)) (fun _ h => h.1))
             have n5_ := Aside0.mk (Kd.R_mono (Kd.R_keep (IsS45.apart (show IsS45 w0 _ g s0_0 x1001_48 from by repeat (first | (with_reducible first | exact HI0.out | apply IsS45.alloc | apply IsS45.drewN | apply IsS45.drew | apply IsS45.set_1 | refine IsS45.far ?_ NB0_122.out _ | refine IsS45.far ?_ NB0_129.out _) | exact HI0.out)) (by (with_reducible repeat first | apply Kd.R_alloc | apply Kd.R_drewN | apply Kd.R_drew); exact HO162.out) (by decide)) hk (fun _ h => h.2)) (fun _ h => h.1))
             have n6_ := Aside0.mk (KeepBut.trans (by repeat first | (with_reducible first | exact HK.out | apply KeepBut.set_ | apply keep_drewN | apply keep_drew | apply keep_alloc | refine keep_far ?_ GW122.out _ | refine keep_far ?_ GW129.out _) | exact HK.out) hk (.inl rfl)); have n7_ := Aside0.mk (hb); have n8_ := Aside0.mk (hi); clear HO_130000 HO_130001 BK122 BK129 HO167 HO162 HK HB HI0; have HO_130000 := n0_; have HO_130001 := n1_; have BK122 := n2_; have BK129 := n3_; have HO167 := n4_; have HO162 := n5_; have HK := n6_; have HB := n7_; have HI0 := n8_; clear n0_ n1_ n2_ n3_ n4_ n5_ n6_ n7_ n8_
             (try clear hb)
             (try clear hb2)
             (try clear hk)
             (try clear hi)
             refine hK.out _ _ ⟨(blk_cell BK129.out 0).trans rfl, (blk_cell BK129.out 1).trans rfl⟩ (fun hHeld => ?_)
             clear hK K
             refine norm_ (a' := ?_) ?_ ?_
             rotate_left
             ·show Act.put _ (some 55) _ = _
              simp only [Act.put, ps_]
              rfl
             exact norm_ (by simp only [putAll, Act.put, List.setIfInBounds_toArray, List.set_cons_zero, List.set_cons_succ]) (hCont (.slice Ao71 y160.length co71, v166) _ ⟨hHeld, (by (with_reducible repeat first | apply Kd.R_alloc | apply Kd.R_drewN | apply Kd.R_drew); exact Kd.R_mono HO162.out (fun _ hk => hk.2)), (by (with_reducible repeat first | apply Kd.R_alloc | apply Kd.R_drewN | apply Kd.R_drew); exact HO167.out), (by (with_reducible repeat first | apply Kd.R_alloc | apply Kd.R_drewN | apply Kd.R_drew); exact HO_130000.out), (by (with_reducible repeat first | apply Kd.R_alloc | apply Kd.R_drewN | apply Kd.R_drew); exact Kd.R_mono HO_130001.out (fun _ hk => hk.2)), (by (with_reducible repeat first | apply blk_drewN | apply blk_drew | apply blk_alloc); exact BK122.out), (by (with_reducible repeat first | apply blk_drewN | apply blk_drew | apply blk_alloc); exact BK129.out), (by repeat first | (with_reducible first | exact HI0.out | apply IsS45.alloc | apply IsS45.drewN | apply IsS45.drew | apply IsS45.set_1 | refine IsS45.far ?_ NB0_122.out _ | refine IsS45.far ?_ NB0_129.out _) | exact HI0.out), (by repeat first | (with_reducible first | exact HK.out | apply KeepBut.set_ | apply keep_drewN | apply keep_drew | apply keep_alloc | refine keep_far ?_ GW122.out _ | refine keep_far ?_ GW129.out _) | exact HK.out), (by repeat first | (with_reducible first | exact HB.out | apply below_alloc | apply pw_below_drewN | apply below_drew1 | refine below_set ?_ (IsS45.ge HI0.out) | refine below_set ?_ GE122.out | refine below_set ?_ GE129.out) | exact HB.out)⟩)
           rintro ⟨v161, v166⟩ w73 ⟨hS_, h0_, h1_, h2_, h3_, h4_, h5_, h6_, h7_, h8_⟩
           have n0_ : Aside0 (Kd.R Kd.string 9 w73 w.heap.size (fun k_ => some k_ ≠ (u130001 : Value).ownBlock) v161 y160) := ⟨h0_⟩
           have n1_ : Aside0 (Kd.R (Kd.int .i64) 3 w73 w.heap.size (fun _ => True) v166 y165) := ⟨h1_⟩
           have n2_ : Aside0 (Kd.R k30 30 w73 w.heap.size (fun _ => True) u130000 x130000_1) := ⟨h2_⟩
           have n3_ : Aside0 (Kd.R Kd.string 9 w73 w.heap.size (fun k_ => some k_ ≠ (v161 : Value).ownBlock) u130001 x130001_2) := ⟨h3_⟩
           have n4_ : Aside0 (w73.heap[gb122]? = some (.cells #[.slice none 0 0, .slice none 0 0] 26 (0, 0))) := ⟨h4_⟩
           have n5_ : Aside0 (w73.heap[gb129]? = some (.cells #[u130000, u130001] 26 (0, 0))) := ⟨h5_⟩
           have n6_ : Aside0 (IsS45 w0 w73 g s0_0 t164) := ⟨h6_⟩
           have n7_ : Aside0 (KeepBut w w73 g none) := ⟨h7_⟩
           have n8_ : Aside0 (Below w0.heap.size w0 w73) := ⟨h8_⟩
           clear HO_130000 HO_130001 BK122 BK129 HI0 HK HB h0_ h1_ h2_ h3_ h4_ h5_ h6_ h7_ h8_; have HO162 := n0_; have HO167 := n1_; have HO_130000 := n2_; have HO_130001 := n3_; have BK122 := n4_; have BK129 := n5_; have HI0 := n6_; have HK := n7_; have HB := n8_; clear n0_ n1_ n2_ n3_ n4_ n5_ n6_ n7_ n8_
           have hHeld : w73.cell? ⟨gb129, 0, none⟩ = some (u130000) ∧ w73.cell? ⟨gb129, 1, none⟩ = some (u130001) := hS_
           obtain ⟨Ao74, co74, eo74⟩ := Kd.R_slice HO167.out
           (first | subst eo74 | (injection eo74 with f1_ f2_ f3_; have f4_ := f1_.symm; have f5_ := f3_.symm; clear f1_ f2_ f3_; subst f4_; subst f5_))
           refine norm_ (a' := ?_) ?_ ?_
           rotate_left
           ·simp only [putAll, Act.put, List.setIfInBounds_toArray, List.set_cons_zero, List.set_cons_succ]
            rfl
           refine one_ (i := 7) (N := some 58) #[tt,tt,tt,tt,tt,tt,tt,tt,ff,ff,ff] rfl rfl (one_of HT_.out (by kernel_rfl)) (by decide) (fun K hK => ?_)
           refine goes_ Tryd.func17 (by kernel_rfl) rfl #[.pointer (some ⟨g, 0, none⟩), .slice Ao74 y165.length co74] (by rfl) rfl rfl (by (try simp only [List.map_toArray, List.map_cons, List.map_nil]); first | done | rfl) ?_
           with_reducible refine (spec_reader_one.calls kj48 g s0_0 t164 _ _ y165 t168 t169 w0 _ ?side1 ?side2 ?side3 ?side4 ?side5 A63.out).mono ?_
           (case side1 => repeat (first | (with_reducible first | exact HI0.out | apply IsS45.alloc | apply IsS45.drewN | apply IsS45.drew | apply IsS45.set_1 | refine IsS45.far ?_ NB0_122.out _ | refine IsS45.far ?_ NB0_129.out _) | exact HI0.out))
           (case side2 => repeat (first | (with_reducible first | exact HB.out | apply below_alloc | apply pw_below_drewN | apply below_drew1 | refine below_set ?_ (IsS45.ge HI0.out) | refine below_set ?_ GE122.out | refine below_set ?_ GE129.out) | exact HB.out))
           (case side3 => repeat (first | exact (Kd.R_reads' HO167.out).2.2 | with_reducible first | apply Kd.C_alloc | apply Kd.C_drewN | apply Kd.C_drew))
           (case side4 => exact (Kd.R_reads' HO167.out).2.1)
           (case side5 => exact far_slice (IsS45.own_ne HI0.out HO167.out (by decide)))
           rintro e w75 ⟨rfl, hi, hb, hk⟩
           refine ⟨_, rfl, ?_⟩
           have n0_ := Aside0.mk (Kd.R_mono (Kd.R_keep (IsS45.apart (show IsS45 w0 _ g s0_0 t164 from by repeat (first | (with_reducible first | exact HI0.out | apply IsS45.alloc | apply IsS45.drewN | apply IsS45.drew | apply IsS45.set_1 | refine IsS45.far ?_ NB0_122.out _ | refine IsS45.far ?_ NB0_129.out _) | exact HI0.out)) (by (with_reducible repeat first | apply Kd.R_alloc | apply Kd.R_drewN | apply Kd.R_drew); exact HO_130000.out) (by decide)) hk (fun _ h => h.2)) (fun _ h => h.1))
           have n1_ := Aside0.mk (Kd.R_mono (Kd.R_keep (IsS45.apart (show IsS45 w0 _ g s0_0 t164 from by repeat (first | (with_reducible first | exact HI0.out | apply IsS45.alloc | apply IsS45.drewN | apply IsS45.drew | apply IsS45.set_1 | refine IsS45.far ?_ NB0_122.out _ | refine IsS45.far ?_ NB0_129.out _) | exact HI0.out)) (by (with_reducible repeat first | apply Kd.R_alloc | apply Kd.R_drewN | apply Kd.R_drew); exact HO_130001.out) (by decide)) hk (fun _ h => h.2)) (fun _ h => h.1))
           have n2_ := Aside0.mk (KeepBut.blk hk (g' := gb122) (o := .cells #[.slice none 0 0, .slice none 0 0] 26 (0, 0)) (by (with_reducible repeat first | apply blk_drewN | apply blk_drew | apply blk_alloc); exact BK122.out) NB122_0.out (by simp))
           have n3_ := Aside0.mk (KeepBut.blk hk (g' := gb129) (o := .cells #[u130000, u130001] 26 (0, 0)) (by (with_reducible repeat first | apply blk_drewN | apply blk_drew | apply blk_alloc); exact BK129.out) NB129_0.out (by simp))
           have n4_ := Aside0.mk (Kd.R_mono (Kd.R_keep (IsS45.apart (show IsS45 w0 _ g s0_0 t164 from by repeat (first | (with_reducible first | exact HI0.out | apply IsS45.alloc | apply IsS45.drewN | apply IsS45.drew | apply IsS45.set_1 | refine IsS45.far ?_ NB0_122.out _ | refine IsS45.far ?_ NB0_129.out _) | exact HI0.out)) (by (with_reducible repeat first | apply Kd.R_alloc | apply Kd.R_drewN | apply Kd.R_drew); exact HO162.out) (by decide)) hk (fun _ h => h.2)) (fun _ h => h.1))
           have n5_ := Aside0.mk (Kd.R_mono (Kd.R_keep (IsS45.apart (show IsS45 w0 _ g s0_0 t164 from by repeat (first | (with_reducible first | exact HI0.out | apply IsS45.alloc | apply IsS45.drewN | apply IsS45.drew | apply IsS45.set_1 | refine IsS45.far ?_ NB0_122.out _ | refine IsS45.far ?_ NB0_129.out _) | exact HI0.out)) (by (with_reducible repeat first | apply Kd.R_alloc | apply Kd.R_drewN | apply Kd.R_drew); exact HO167.out) (by decide)) hk (fun _ h => h.2)) (fun _ h => h.1))
           have n6_ := Aside0.mk (KeepBut.trans (by repeat first | (with_reducible first | exact HK.out | apply KeepBut.set_ | apply keep_drewN | apply keep_drew | apply keep_alloc | refine keep_far ?_ GW122.out _ | refine keep_far ?_ GW129.out _) | exact HK.out) hk (.inl rfl)); have n7_ := Aside0.mk (hb); have n8_ := Aside0.mk (hi); clear HO_130000 HO_130001 BK122 BK129 HO162 HO167 HK HB HI0; have HO_130000 := n0_; have HO_130001 := n1_; have BK122 := n2_; have BK129 := n3_; have HO162 := n4_; have HO167 := n5_; have HK := n6_; have HB := n7_; have HI0 := n8_; clear n0_ n1_ n2_ n3_ n4_ n5_ n6_ n7_ n8_
           (try clear hb)
           (try clear hb2)
           (try clear hk)
           (try clear hi)
           have p65 : 0 ≤ (0 : Int) := (by omega)
           have q65 : (0 : Int) < ((x130000_1.length : Int) : Int) := of_decide_eq_true (by first | (with_reducible assumption) | assumption)
           have qi65 : (0 < x130000_1.length) = True := eq_true (by omega)
           obtain ⟨go65, co65, eo65, gb65, gl65, cl65, HG65⟩ := Kd.R_form HO_130000.out (by omega)
           (first | cases eo65 | (injection eo65 with ea_ en_ ec_; (first | subst ea_ | (injection ea_ with ea_; subst ea_)); subst ec_; clear en_))
           have GB65 := Aside0.mk gb65; have GG65 := Aside0.mk HG65; clear gb65 gl65 HG65
           obtain ⟨ce65, hcl65, hM65, hcc65, hfr65⟩ := Kd.R_elem HO_130000.out z30 (0 : Int) p65 q65
           obtain rfl := k30_openM hM65
           have hx65_0 : World.cell? _ ⟨go65, (0 : Int).toNat * 2, none⟩ = some (.string ((rd_T30 x130000_1 0).f0)) := hcc65 0 _ rfl
           have hx65_1 : World.cell? _ ⟨go65, (0 : Int).toNat * 2 + 1, none⟩ = some (.int .i64 ((rd_T30 x130000_1 0).f1)) := hcc65 1 _ rfl
           have hf65_0 : World.frozen? _ ⟨go65, (0 : Int).toNat * 2, none⟩ = false := hfr65 0
           have hf65_1 : World.frozen? _ ⟨go65, (0 : Int).toNat * 2 + 1, none⟩ = false := hfr65 1
           clear hcl65 hcc65 hfr65; (try clear hM65)
           (try rw [show ((0 : Int)).toNat = 0 from rfl] at hx65_0)
           (try simp only [Nat.reduceMul, Nat.zero_mul, Nat.zero_add, Nat.reduceAdd] at hx65_0)
           (try rw [show ((0 : Int)).toNat = 0 from rfl] at hf65_0)
           (try simp only [Nat.reduceMul, Nat.zero_mul, Nat.zero_add, Nat.reduceAdd] at hf65_0)
           (try rw [show ((0 : Int)).toNat = 0 from rfl] at hx65_1)
           (try simp only [Nat.reduceMul, Nat.zero_mul, Nat.zero_add, Nat.reduceAdd] at hx65_1)
           (try rw [show ((0 : Int)).toNat = 0 from rfl] at hf65_1)
           (try simp only [Nat.reduceMul, Nat.zero_mul, Nat.zero_add, Nat.reduceAdd] at hf65_1)
           replace p65 := eq_true p65
           replace q65 := eq_true q65
           have HN0_go65 := Aside0.mk (show g ≠ go65 from by have h_ := IsS45.own_ne HI0.out HO_130000.out (by decide); intro e_; exact h_ (by rw [e_]; rfl))
           obtain ⟨ce76, hcl76, hM76, hcc76, hfr76⟩ := Kd.R_elem HO_130000.out z30 (0 : Int) (by omega) (by have h_ : (0 : Int) < ((x130000_1.length : Int) : Int) := of_decide_eq_true (by first | (with_reducible assumption) | assumption); first | exact h_ | (have e_ := (Kd.R_reads' HO_130000.out).1; omega) | simpa using h_)
           obtain rfl := k30_openM hM76
           have HP76 := (Kd.R_seg HO_130000.out (0 : Int) (by omega) (by have h_ : (0 : Int) < ((x130000_1.length : Int) : Int) := of_decide_eq_true (by first | (with_reducible assumption) | assumption); first | exact h_ | (have e_ := (Kd.R_reads' HO_130000.out).1; omega) | simpa using h_) (seg := [.string t163, .int .i64 t168]) (j := 0) hcl76 hcc76 (show 2 ≤ 2 from by decide) (x' := (⟨t163, t168⟩ : S30)) (k30_mkM _ _ _ (⟨t163, t168⟩ : S30) ) (fun _ hk => hk)).1
           rw [← Ny170.out] at HP76
           have HQ76 := Aside0.mk HP76
           clear hcl76 hcc76 hfr76 HP76; (try clear hM76)
           refine hK.out _ _ ⟨(blk_cell BK129.out 0).trans rfl, (blk_cell BK129.out 1).trans rfl⟩ (fun hHeld => ?_)
           clear hK K
           refine norm_ (a' := ?_) ?_ ?_
           rotate_left
           ·show Act.put _ (some 58) _ = _
            simp only [Act.put, ps_]
            rfl
           refine pu_ 8 (some 59) (v := ?_) (a' := ?_) #[tt,tt,tt,tt,tt,tt,tt,tt,tt,ff,ff] HT_.out rfl rfl (by kernel_rfl) (fun _ _ _ h => h) (Or.inl ⟨by rfl, ?_⟩) ?_ ?_
           rotate_left
           ·intro w'
            go_simp
            with_reducible rfl
           rotate_left
           ·simp only [Act.put, ps_]
            rfl
           refine pu_ 9 (some 60) (v := ?_) (a' := ?_) #[tt,tt,tt,tt,tt,tt,tt,tt,tt,tt,ff] HT_.out rfl rfl (by kernel_rfl) (fun _ _ _ h => h) (Or.inl ⟨by rfl, ?_⟩) ?_ ?_
           rotate_left
           ·intro w'
            go_simp
            with_reducible rfl
           rotate_left
           ·simp only [Act.put, ps_]
            rfl
           refine last_ (i := 10) (N := none) #[tt,tt,tt,tt,tt,tt,tt,tt,tt,tt,tt] rfl rfl (one_of HT_.out (by kernel_rfl)) (by decide) (fun K hK => ?_)
           refine skip_ (w1 := ?_) (by rfl) rfl ?_ ?_
           rotate_left
           ·go_simp
            rfl
           refine hK.out _ _ ?_
           clear hK K
           refine done_ (done_of HT_.out (by kernel_rfl)) ?_
           have n0_ : Aside0 (Kd.R k30 30 ((w75.setCell ⟨go65, 0, none⟩ (.string t163)).setCell ⟨go65, 1, none⟩ (.int .i64 t168)) w.heap.size (fun _ => True) (.slice (some ⟨go65, 0, none⟩) x130000_1.length co65) y170) := ⟨by (with_reducible repeat first | apply Kd.R_alloc | apply Kd.R_drewN | apply Kd.R_drew); exact HQ76.out⟩
           have n1_ : Aside0 (Kd.R Kd.string 9 ((w75.setCell ⟨go65, 0, none⟩ (.string t163)).setCell ⟨go65, 1, none⟩ (.int .i64 t168)) w.heap.size (fun k_ => some k_ ≠ (v161 : Value).ownBlock) u130001 x130001_2) := ⟨by (with_reducible repeat first | apply Kd.R_alloc | apply Kd.R_drewN | apply Kd.R_drew); exact Kd.R_mono (Kd.R_far (p := ⟨go65, 1, none⟩) (Kd.R_far (p := ⟨go65, 0, none⟩) (Kd.R_types HO_130001.out GG65.out (by decide)) (fun _ hk => hk.2) (.string t163)) (fun _ hk => hk.2) (.int .i64 t168)) (fun _ hk => hk.1)⟩
           have n2_ : Aside0 (Kd.R Kd.string 9 ((w75.setCell ⟨go65, 0, none⟩ (.string t163)).setCell ⟨go65, 1, none⟩ (.int .i64 t168)) w.heap.size (fun k_ => some k_ ≠ (u130001 : Value).ownBlock) v161 y160) := ⟨by (with_reducible repeat first | apply Kd.R_alloc | apply Kd.R_drewN | apply Kd.R_drew); exact Kd.R_mono (Kd.R_far (p := ⟨go65, 1, none⟩) (Kd.R_far (p := ⟨go65, 0, none⟩) (Kd.R_types HO162.out GG65.out (by decide)) (fun _ hk => hk.2) (.string t163)) (fun _ hk => hk.2) (.int .i64 t168)) (fun _ hk => hk.1)⟩
           have n3_ : Aside0 (Kd.R (Kd.int .i64) 3 ((w75.setCell ⟨go65, 0, none⟩ (.string t163)).setCell ⟨go65, 1, none⟩ (.int .i64 t168)) w.heap.size (fun _ => True) (.slice Ao74 y165.length co74) y165) := ⟨by (with_reducible repeat first | apply Kd.R_alloc | apply Kd.R_drewN | apply Kd.R_drew); exact Kd.R_mono (Kd.R_far (p := ⟨go65, 1, none⟩) (Kd.R_far (p := ⟨go65, 0, none⟩) (Kd.R_types HO167.out GG65.out (by decide)) (fun _ hk => hk.2) (.string t163)) (fun _ hk => hk.2) (.int .i64 t168)) (fun _ hk => trivial)⟩
           have n4_ : Aside0 (((w75.setCell ⟨go65, 0, none⟩ (.string t163)).setCell ⟨go65, 1, none⟩ (.int .i64 t168)).heap[gb122]? = some (.cells #[.slice none 0 0, .slice none 0 0] 26 (0, 0))) := ⟨by (with_reducible repeat first | apply blk_drewN | apply blk_drew | apply blk_alloc); refine blk_far ?_ (by have h_ := Kd.R_ne HO_130000.out BK122.out (by decide); intro e_; exact h_ (by rw [e_]; rfl)) _; (with_reducible repeat first | apply blk_drewN | apply blk_drew | apply blk_alloc); refine blk_far ?_ (by have h_ := Kd.R_ne HO_130000.out BK122.out (by decide); intro e_; exact h_ (by rw [e_]; rfl)) _; (with_reducible repeat first | apply blk_drewN | apply blk_drew | apply blk_alloc); exact BK122.out⟩
           have n5_ : Aside0 (((w75.setCell ⟨go65, 0, none⟩ (.string t163)).setCell ⟨go65, 1, none⟩ (.int .i64 t168)).heap[gb129]? = some (.cells #[.slice (some ⟨go65, 0, none⟩) x130000_1.length co65, u130001] 26 (0, 0))) := ⟨by (with_reducible repeat first | apply blk_drewN | apply blk_drew | apply blk_alloc); refine blk_far ?_ (by have h_ := Kd.R_ne HO_130000.out BK129.out (by decide); intro e_; exact h_ (by rw [e_]; rfl)) _; (with_reducible repeat first | apply blk_drewN | apply blk_drew | apply blk_alloc); refine blk_far ?_ (by have h_ := Kd.R_ne HO_130000.out BK129.out (by decide); intro e_; exact h_ (by rw [e_]; rfl)) _; (with_reducible repeat first | apply blk_drewN | apply blk_drew | apply blk_alloc); exact BK129.out⟩
           have n6_ : Aside0 (IsS45 w0 ((w75.setCell ⟨go65, 0, none⟩ (.string t163)).setCell ⟨go65, 1, none⟩ (.int .i64 t168)) g s0_0 t169) := ⟨by repeat (first | (with_reducible first | exact HI0.out | apply IsS45.alloc | apply IsS45.drewN | apply IsS45.drew | apply IsS45.set_1 | refine IsS45.far ?_ HN0_go65.out _ | refine IsS45.far ?_ HN0_go65.out _ | refine IsS45.far ?_ NB0_122.out _ | refine IsS45.far ?_ NB0_129.out _) | exact HI0.out)⟩
           have n7_ : Aside0 (KeepBut w ((w75.setCell ⟨go65, 0, none⟩ (.string t163)).setCell ⟨go65, 1, none⟩ (.int .i64 t168)) g none) := ⟨by repeat (first | (with_reducible first | exact HK.out | apply KeepBut.set_ | apply keep_drewN | apply keep_drew | apply keep_alloc | refine keep_far ?_ GB65.out _ | refine keep_far ?_ GB65.out _ | refine keep_far ?_ GW122.out _ | refine keep_far ?_ GW129.out _) | exact HK.out)⟩
           have n8_ : Aside0 (Below w0.heap.size w0 ((w75.setCell ⟨go65, 0, none⟩ (.string t163)).setCell ⟨go65, 1, none⟩ (.int .i64 t168))) := ⟨by repeat (first | (with_reducible first | exact HB.out | apply below_alloc | apply pw_below_drewN | apply below_drew1 | refine below_set ?_ (Nat.le_trans HL.out GB65.out) | refine below_set ?_ (Nat.le_trans HL.out GB65.out) | refine below_set ?_ (IsS45.ge HI0.out) | refine below_set ?_ GE122.out | refine below_set ?_ GE129.out) | exact HB.out)⟩
           (try clear HO_130000)
           (try clear HO_130001)
           (try clear HO162)
           (try clear HO167)
           (try clear BK122)
           (try clear BK129)
           (try clear HI0)
           (try clear HK)
           (try clear HB)
           generalize ((w75.setCell ⟨go65, 0, none⟩ (.string t163)).setCell ⟨go65, 1, none⟩ (.int .i64 t168)) = w77 at n0_ n1_ n2_ n3_ n4_ n5_ n6_ n7_ n8_ ⊢
           have HO_130000 := n0_; have HO_130001 := n1_; have HO162 := n2_; have HO167 := n3_; have BK122 := n4_; have BK129 := n5_; have HI0 := n6_; have HK := n7_; have HB := n8_; clear n0_ n1_ n2_ n3_ n4_ n5_ n6_ n7_ n8_; have hnb78 := NB129_122.out; have hnc78 := NB122_129.out; have hnb79 := NB129_0.out; have hnc79 := NB0_129.out
           have hcz80_0 : w77.cell? ⟨gb129, 0, none⟩ = some (.slice (some ⟨go65, 0, none⟩) x130000_1.length co65) := (blk_cell BK129.out 0).trans rfl
           have hcz80_1 : w77.cell? ⟨gb129, 1, none⟩ = some (u130001) := (blk_cell BK129.out 1).trans rfl
           have hfz80_0 := blk_frozen BK129.out 0; have hfz80_1 := blk_frozen BK129.out 1; have hnb81 := NB122_0.out; have hnc81 := NB0_122.out
           have hcz82_0 : w77.cell? ⟨gb122, 0, none⟩ = some (.slice none 0 0) := (blk_cell BK122.out 0).trans rfl
           have hcz82_1 : w77.cell? ⟨gb122, 1, none⟩ = some (.slice none 0 0) := (blk_cell BK122.out 1).trans rfl
           have hfz82_0 := blk_frozen BK122.out 0; have hfz82_1 := blk_frozen BK122.out 1
           obtain ⟨Ao83, co83, eo83⟩ := Kd.R_slice HO_130001.out
           subst eo83; try go_wp2
           refine bodyPost_ret (results_cell_row rfl _ _ gb122 26 #[.slice (some ⟨go65, 0, none⟩) x130000_1.length co65, .slice Ao83 x130001_2.length co83] (0, 0) _ rfl (by (with_reducible repeat first | apply blk_drewN | apply blk_drew | apply blk_alloc); refine blk_put (cs := #[.slice (some ⟨go65, 0, none⟩) x130000_1.length co65, .slice none 0 0]) ?_ 1 _ rfl; (with_reducible repeat first | apply blk_drewN | apply blk_drew | apply blk_alloc); refine blk_put (cs := #[.slice none 0 0, .slice none 0 0]) ?_ 0 _ rfl; (with_reducible repeat first | apply blk_drewN | apply blk_drew | apply blk_alloc); exact BK122.out) Tryd.underlying26 rfl (by kernel_rfl)) rfl ?_
           exact ⟨_, _, by first | rfl | (simp [errW_none, errW_some] <;> rfl) | (simp [*, errW_none, errW_some] <;> rfl), by (with_reducible repeat first | apply Kd.R_alloc | apply Kd.R_drewN | apply Kd.R_drew); exact Kd.R_mono (Kd.R_far (p := ⟨gb122, 1, none⟩) (Kd.R_far (p := ⟨gb122, 0, none⟩) (Kd.R_types HO_130000.out BK122.out (by decide)) (fun _ hk => hk.2) (.slice (some ⟨go65, 0, none⟩) x130000_1.length co65)) (fun _ hk => hk.2) (.slice Ao83 x130001_2.length co83)) (fun _ hk => trivial), by (with_reducible repeat first | apply Kd.R_alloc | apply Kd.R_drewN | apply Kd.R_drew); exact Kd.R_mono (Kd.R_far (p := ⟨gb122, 1, none⟩) (Kd.R_far (p := ⟨gb122, 0, none⟩) (Kd.R_types HO_130001.out BK122.out (by decide)) (fun _ hk => hk.2) (.slice (some ⟨go65, 0, none⟩) x130000_1.length co65)) (fun _ hk => hk.2) (.slice Ao83 x130001_2.length co83)) (fun _ hk => trivial), by repeat (first | (with_reducible first | exact HI0.out | apply IsS45.alloc | apply IsS45.drewN | apply IsS45.drew | apply IsS45.set_1 | refine IsS45.far ?_ NB0_122.out _ | refine IsS45.far ?_ NB0_129.out _) | exact HI0.out), by repeat (first | (with_reducible first | exact HB.out | apply below_alloc | apply pw_below_drewN | apply below_drew1 | refine below_set ?_ (IsS45.ge HI0.out) | refine below_set ?_ GE122.out | refine below_set ?_ GE129.out) | exact HB.out), by repeat (first | (with_reducible first | exact HK.out | apply KeepBut.set_ | apply keep_drewN | apply keep_drew | apply keep_alloc | refine keep_far ?_ GW122.out _ | refine keep_far ?_ GW129.out _) | exact HK.out)⟩
          ·rw [if_neg c64] at H
           exact absurd H (by simp)
         ·replace c61 := Bool.eq_false_iff.mpr c61
          subst c61
          have H1 : (some (x130000_1, x130001_2, x1001_48)) = some (r1, r2, r3) := by rw [if_neg (show ¬ (false = true) by decide)] at H; exact H
          clear H; have H := H1; clear H1
          simp only [Option.some.injEq, Prod.mk.injEq] at H
          obtain ⟨rfl, rfl, rfl⟩ := H
          have hnb84 := NB129_122.out; have hnc84 := NB122_129.out; have hnb85 := NB129_0.out; have hnc85 := NB0_129.out
          have hcz86_0 : wc.cell? ⟨gb129, 0, none⟩ = some (u130000) := (blk_cell BK129.out 0).trans rfl
          have hcz86_1 : wc.cell? ⟨gb129, 1, none⟩ = some (u130001) := (blk_cell BK129.out 1).trans rfl
          have hfz86_0 := blk_frozen BK129.out 0; have hfz86_1 := blk_frozen BK129.out 1
          obtain ⟨Ao87, co87, eo87⟩ := Kd.R_slice HO_130000.out
          subst eo87; have hnb88 := NB122_0.out; have hnc88 := NB0_122.out
          have hcz89_0 : wc.cell? ⟨gb122, 0, none⟩ = some (.slice none 0 0) := (blk_cell BK122.out 0).trans rfl
          have hcz89_1 : wc.cell? ⟨gb122, 1, none⟩ = some (.slice none 0 0) := (blk_cell BK122.out 1).trans rfl
          have hfz89_0 := blk_frozen BK122.out 0; have hfz89_1 := blk_frozen BK122.out 1
          obtain ⟨Ao90, co90, eo90⟩ := Kd.R_slice HO_130001.out
          subst eo90
          go_wp2
          refine bodyPost_ret (results_cell_row rfl _ _ gb122 26 #[.slice Ao87 x130000_1.length co87, .slice Ao90 x130001_2.length co90] (0, 0) _ rfl (by (with_reducible repeat first | apply blk_drewN | apply blk_drew | apply blk_alloc); refine blk_put (cs := #[.slice Ao87 x130000_1.length co87, .slice none 0 0]) ?_ 1 _ rfl; (with_reducible repeat first | apply blk_drewN | apply blk_drew | apply blk_alloc); refine blk_put (cs := #[.slice none 0 0, .slice none 0 0]) ?_ 0 _ rfl; (with_reducible repeat first | apply blk_drewN | apply blk_drew | apply blk_alloc); exact BK122.out) Tryd.underlying26 rfl (by kernel_rfl)) rfl ?_
          exact ⟨_, _, by first | rfl | (simp [errW_none, errW_some] <;> rfl) | (simp [*, errW_none, errW_some] <;> rfl), by (with_reducible repeat first | apply Kd.R_alloc | apply Kd.R_drewN | apply Kd.R_drew); exact Kd.R_mono (Kd.R_far (p := ⟨gb122, 1, none⟩) (Kd.R_far (p := ⟨gb122, 0, none⟩) (Kd.R_types HO_130000.out BK122.out (by decide)) (fun _ hk => hk.2) (.slice Ao87 x130000_1.length co87)) (fun _ hk => hk.2) (.slice Ao90 x130001_2.length co90)) (fun _ hk => trivial), by (with_reducible repeat first | apply Kd.R_alloc | apply Kd.R_drewN | apply Kd.R_drew); exact Kd.R_mono (Kd.R_far (p := ⟨gb122, 1, none⟩) (Kd.R_far (p := ⟨gb122, 0, none⟩) (Kd.R_types HO_130001.out BK122.out (by decide)) (fun _ hk => hk.2) (.slice Ao87 x130000_1.length co87)) (fun _ hk => hk.2) (.slice Ao90 x130001_2.length co90)) (fun _ hk => trivial), by repeat (first | (with_reducible first | exact HI0.out | apply IsS45.alloc | apply IsS45.drewN | apply IsS45.drew | apply IsS45.set_1 | refine IsS45.far ?_ NB0_122.out _ | refine IsS45.far ?_ NB0_129.out _) | exact HI0.out), by repeat (first | (with_reducible first | exact HB.out | apply below_alloc | apply pw_below_drewN | apply below_drew1 | refine below_set ?_ (IsS45.ge HI0.out) | refine below_set ?_ GE122.out | refine below_set ?_ GE129.out) | exact HB.out), by repeat (first | (with_reducible first | exact HK.out | apply KeepBut.set_ | apply keep_drewN | apply keep_drew | apply keep_alloc | refine keep_far ?_ GW122.out _ | refine keep_far ?_ GW129.out _) | exact HK.out)⟩

end Go.Proofs.YtieghkchhjailaaDoor.Z
