-- WRITTEN by wip/ext.py
import Derived.Test.YtdllommmccgleaaYx0
import Derived.Test.YtdllommmccgleaaYx6
import Derived.Test.YtdllommmccgleaaYx7
namespace Go.Proofs.Ytdllommmccgleaa.Y
open Go.RowKit Go.Proofs.YtdllommmccgleaaW.PrintWords Go.Proofs.YtdllommmccgleaaW.PrintLast Go.Proofs.YtdllommmccgleaaW.PrintMore
attribute [local go_sem] max2_int min2_int max_two min_two max_three min_three max_four min_four   -- for this text's walks alone
set_option linter.unusedVariables false
set_option linter.unusedSimpArgs false

/-! ### impl_SameExpr: function 12 -/
mutual
def impl_SameExpr.j0 : Nat → Bool → ByteArray → List (S55) → ByteArray → List (S55) → Option (Bool)
 | 0, _, _, _, _, _ => none
 | k + 1, x35, x200000, x200001, x206000, x206001 => if x35 = true then (some false) else ((impl_expr_atoms.f k x200000 x200001 ([] : List ByteArray)).bind fun t206 => ((impl_expr_atoms.f k x206000 x206001 t206).bind fun t209 => (if (t209.length : Int) > 6 then (some false) else (impl_SameExpr.l0 k (([(⟨#[]⟩ : ByteArray)] : List ByteArray)) (([] : List ByteArray)) t209 (t209.length : Int) 0 x200000 x200001 x206000 x206001))))
def impl_SameExpr.l0 : Nat → List ByteArray → List ByteArray → List ByteArray → Int → Int → ByteArray → List (S55) → ByteArray → List (S55) → Option (Bool)
 | 0, _, _, _, _, _, _, _, _, _ => none
 | k + 1, x10, x11, x45, x46, x47, x200000, x200001, x206000, x206001 => if x47 < x46 then (if 0 ≤ x47 then (if x47 < (x45.length : Int) then (if 0 < ((rdOf ByteArray.empty x45 x47).size : Int) then (if (bt (rdOf ByteArray.empty x45 x47) 0) = 64 then (if 1 ≤ ((rdOf ByteArray.empty x45 x47).size : Int) then (if x10.length < 8796093022208 then (impl_SameExpr.l0 k (x10 ++ [(rdOf ByteArray.empty x45 x47).extract 1 (rdOf ByteArray.empty x45 x47).size]) x11 x45 x46 (wrap64 (x47 + 1)) x200000 x200001 x206000 x206001) else (none)) else (none)) else (if x11.length < 8796093022208 then (impl_SameExpr.l0 k x10 (x11 ++ [rdOf ByteArray.empty x45 x47]) x45 x46 (wrap64 (x47 + 1)) x200000 x200001 x206000 x206001) else (none))) else (none)) else (none)) else (none)) else (impl_SameExpr.l1 k x11 x10 (x10.length : Int) 0 x200000 x200001 x206000 x206001)
def impl_SameExpr.l1 : Nat → List ByteArray → List ByteArray → Int → Int → ByteArray → List (S55) → ByteArray → List (S55) → Option (Bool)
 | 0, _, _, _, _, _, _, _, _ => none
 | k + 1, x11, x64, x65, x66, x200000, x200001, x206000, x206001 => if x66 < x65 then (if 0 ≤ x66 then (if x66 < (x64.length : Int) then (impl_SameExpr.l2 k x11 (rdOf ByteArray.empty x64 x66) x64 x65 x66 (shl .i64 1 (x11.length : Int)) 0 x200000 x200001 x206000 x206001) else (none)) else (none)) else (some true)
def impl_SameExpr.l2 : Nat → List ByteArray → ByteArray → List ByteArray → Int → Int → Int → Int → ByteArray → List (S55) → ByteArray → List (S55) → Option (Bool)
 | 0, _, _, _, _, _, _, _, _, _, _, _ => none
 | k + 1, x11, x15, x64, x65, x66, x72, x73, x200000, x200001, x206000, x206001 => if x73 < x72 then (impl_SameExpr.l3 k x11 x15 x73 (([] : List ByteArray)) x64 x65 x66 x72 x73 x11 (x11.length : Int) 0 x200000 x200001 x206000 x206001) else (impl_SameExpr.l1 k x11 x64 x65 (wrap64 (x66 + 1)) x200000 x200001 x206000 x206001)
def impl_SameExpr.l3 : Nat → List ByteArray → ByteArray → Int → List ByteArray → List ByteArray → Int → Int → Int → Int → List ByteArray → Int → Int → ByteArray → List (S55) → ByteArray → List (S55) → Option (Bool)
 | 0, _, _, _, _, _, _, _, _, _, _, _, _, _, _, _, _ => none
 | k + 1, x11, x15, x16, x17, x64, x65, x66, x72, x73, x77, x78, x79, x200000, x200001, x206000, x206001 => if x79 < x78 then (if 0 ≤ x79 then (if x79 < (x77.length : Int) then (if (Go.bits .and .i64 (shr .i64 x16 x79) 1) = 1 then (if x17.length < 8796093022208 then (impl_SameExpr.l3 k x11 x15 x16 (x17 ++ [rdOf ByteArray.empty x77 x79]) x64 x65 x66 x72 x73 x77 x78 (wrap64 (x79 + 1)) x200000 x200001 x206000 x206001) else (none)) else (impl_SameExpr.l3 k x11 x15 x16 x17 x64 x65 x66 x72 x73 x77 x78 (wrap64 (x79 + 1)) x200000 x200001 x206000 x206001)) else (none)) else (none)) else ((impl_expr_holds.f k x200000 x200001 x15 x17).bind fun t233 => ((impl_expr_holds.f k x206000 x206001 x15 x17).bind fun t234 => (if (t233 != t234) = true then (some false) else (impl_SameExpr.l2 k x11 x15 x64 x65 x66 x72 (wrap64 (x73 + 1)) x200000 x200001 x206000 x206001))))
end
def impl_SameExpr.f (k : Nat) (a0 : ByteArray) (a1 : ByteArray) : Option (Bool) := (impl_readExpr.f k a0).bind fun bt194 => ((impl_readExpr.f k a1).bind fun bt200 => (if bt194.2.2 = true then (impl_SameExpr.j0 k (!bt200.2.2) bt194.1 bt194.2.1 bt200.1 bt200.2.1) else (impl_SameExpr.j0 k true bt194.1 bt194.2.1 bt200.1 bt200.2.1)))
theorem impl_SameExpr.mono_l : ∀ k, (∀ y0 y1 y2 y3 y4, LeO (impl_SameExpr.j0 k y0 y1 y2 y3 y4) (impl_SameExpr.j0 (k + 1) y0 y1 y2 y3 y4)) ∧ (∀ y0 y1 y2 y3 y4 y5 y6 y7 y8, LeO (impl_SameExpr.l0 k y0 y1 y2 y3 y4 y5 y6 y7 y8) (impl_SameExpr.l0 (k + 1) y0 y1 y2 y3 y4 y5 y6 y7 y8)) ∧ (∀ y0 y1 y2 y3 y4 y5 y6 y7, LeO (impl_SameExpr.l1 k y0 y1 y2 y3 y4 y5 y6 y7) (impl_SameExpr.l1 (k + 1) y0 y1 y2 y3 y4 y5 y6 y7)) ∧ (∀ y0 y1 y2 y3 y4 y5 y6 y7 y8 y9 y10, LeO (impl_SameExpr.l2 k y0 y1 y2 y3 y4 y5 y6 y7 y8 y9 y10) (impl_SameExpr.l2 (k + 1) y0 y1 y2 y3 y4 y5 y6 y7 y8 y9 y10)) ∧ (∀ y0 y1 y2 y3 y4 y5 y6 y7 y8 y9 y10 y11 y12 y13 y14 y15, LeO (impl_SameExpr.l3 k y0 y1 y2 y3 y4 y5 y6 y7 y8 y9 y10 y11 y12 y13 y14 y15) (impl_SameExpr.l3 (k + 1) y0 y1 y2 y3 y4 y5 y6 y7 y8 y9 y10 y11 y12 y13 y14 y15))
 | 0 => ⟨fun _ _ _ _ _ r h => by simp [impl_SameExpr.j0] at h, fun _ _ _ _ _ _ _ _ _ r h => by simp [impl_SameExpr.l0] at h, fun _ _ _ _ _ _ _ _ r h => by simp [impl_SameExpr.l1] at h, fun _ _ _ _ _ _ _ _ _ _ _ r h => by simp [impl_SameExpr.l2] at h, fun _ _ _ _ _ _ _ _ _ _ _ _ _ _ _ _ r h => by simp [impl_SameExpr.l3] at h⟩
 | k + 1 => by
  obtain ⟨ih0, ih1, ih2, ih3, ih4⟩ := impl_SameExpr.mono_l k
  refine ⟨?_, ?_, ?_, ?_, ?_⟩
  ·intro y0 y1 y2 y3 y4
   unfold impl_SameExpr.j0
   repeat' first
   | (with_reducible exact ih0 _ _ _ _ _)
   | (with_reducible exact ih1 _ _ _ _ _ _ _ _ _)
   | (with_reducible exact ih2 _ _ _ _ _ _ _ _)
   | (with_reducible exact ih3 _ _ _ _ _ _ _ _ _ _ _)
   | (with_reducible exact ih4 _ _ _ _ _ _ _ _ _ _ _ _ _ _ _ _)
   | (with_reducible exact impl_expr_atoms.mono _ _ _ _)
   | (with_reducible exact impl_expr_holds.mono _ _ _ _ _)
   | (with_reducible exact impl_readExpr.mono _ _)
   | (with_reducible exact LeO.refl _)
   | (with_reducible exact LeO.none _)
   | (with_reducible refine LeO.ite ?_ ?_)
   | (with_reducible refine LeO.bind ?_ (fun _ => ?_))
   | refine LeO.ite ?_ ?_
   | refine LeO.bind ?_ (fun _ => ?_)
  ·intro y0 y1 y2 y3 y4 y5 y6 y7 y8
   unfold impl_SameExpr.l0
   repeat' first
   | (with_reducible exact ih0 _ _ _ _ _)
   | (with_reducible exact ih1 _ _ _ _ _ _ _ _ _)
   | (with_reducible exact ih2 _ _ _ _ _ _ _ _)
   | (with_reducible exact ih3 _ _ _ _ _ _ _ _ _ _ _)
   | (with_reducible exact ih4 _ _ _ _ _ _ _ _ _ _ _ _ _ _ _ _)
   | (with_reducible exact impl_expr_atoms.mono _ _ _ _)
   | (with_reducible exact impl_expr_holds.mono _ _ _ _ _)
   | (with_reducible exact impl_readExpr.mono _ _)
   | (with_reducible exact LeO.refl _)
   | (with_reducible exact LeO.none _)
   | (with_reducible refine LeO.ite ?_ ?_)
   | (with_reducible refine LeO.bind ?_ (fun _ => ?_))
   | refine LeO.ite ?_ ?_
   | refine LeO.bind ?_ (fun _ => ?_)
  ·intro y0 y1 y2 y3 y4 y5 y6 y7
   unfold impl_SameExpr.l1
   repeat' first
   | (with_reducible exact ih0 _ _ _ _ _)
   | (with_reducible exact ih1 _ _ _ _ _ _ _ _ _)
   | (with_reducible exact ih2 _ _ _ _ _ _ _ _)
   | (with_reducible exact ih3 _ _ _ _ _ _ _ _ _ _ _)
   | (with_reducible exact ih4 _ _ _ _ _ _ _ _ _ _ _ _ _ _ _ _)
   | (with_reducible exact impl_expr_atoms.mono _ _ _ _)
   | (with_reducible exact impl_expr_holds.mono _ _ _ _ _)
   | (with_reducible exact impl_readExpr.mono _ _)
   | (with_reducible exact LeO.refl _)
   | (with_reducible exact LeO.none _)
   | (with_reducible refine LeO.ite ?_ ?_)
   | (with_reducible refine LeO.bind ?_ (fun _ => ?_))
   | refine LeO.ite ?_ ?_
   | refine LeO.bind ?_ (fun _ => ?_)
  ·intro y0 y1 y2 y3 y4 y5 y6 y7 y8 y9 y10
   unfold impl_SameExpr.l2
   repeat' first
   | (with_reducible exact ih0 _ _ _ _ _)
   | (with_reducible exact ih1 _ _ _ _ _ _ _ _ _)
   | (with_reducible exact ih2 _ _ _ _ _ _ _ _)
   | (with_reducible exact ih3 _ _ _ _ _ _ _ _ _ _ _)
   | (with_reducible exact ih4 _ _ _ _ _ _ _ _ _ _ _ _ _ _ _ _)
   | (with_reducible exact impl_expr_atoms.mono _ _ _ _)
   | (with_reducible exact impl_expr_holds.mono _ _ _ _ _)
   | (with_reducible exact impl_readExpr.mono _ _)
   | (with_reducible exact LeO.refl _)
   | (with_reducible exact LeO.none _)
   | (with_reducible refine LeO.ite ?_ ?_)
   | (with_reducible refine LeO.bind ?_ (fun _ => ?_))
   | refine LeO.ite ?_ ?_
   | refine LeO.bind ?_ (fun _ => ?_)
  ·intro y0 y1 y2 y3 y4 y5 y6 y7 y8 y9 y10 y11 y12 y13 y14 y15
   unfold impl_SameExpr.l3
   repeat' first
   | (with_reducible exact ih0 _ _ _ _ _)
   | (with_reducible exact ih1 _ _ _ _ _ _ _ _ _)
   | (with_reducible exact ih2 _ _ _ _ _ _ _ _)
   | (with_reducible exact ih3 _ _ _ _ _ _ _ _ _ _ _)
   | (with_reducible exact ih4 _ _ _ _ _ _ _ _ _ _ _ _ _ _ _ _)
   | (with_reducible exact impl_expr_atoms.mono _ _ _ _)
   | (with_reducible exact impl_expr_holds.mono _ _ _ _ _)
   | (with_reducible exact impl_readExpr.mono _ _)
   | (with_reducible exact LeO.refl _)
   | (with_reducible exact LeO.none _)
   | (with_reducible refine LeO.ite ?_ ?_)
   | (with_reducible refine LeO.bind ?_ (fun _ => ?_))
   | refine LeO.ite ?_ ?_
   | refine LeO.bind ?_ (fun _ => ?_)
theorem impl_SameExpr.mono : ∀ a0 a1 k, LeO (impl_SameExpr.f k a0 a1) (impl_SameExpr.f (k + 1) a0 a1) := by
 intro a0 a1 k
 obtain ⟨ih0, ih1, ih2, ih3, ih4⟩ := impl_SameExpr.mono_l k
 unfold impl_SameExpr.f
 repeat' first
   | (with_reducible exact ih0 _ _ _ _ _)
   | (with_reducible exact ih1 _ _ _ _ _ _ _ _ _)
   | (with_reducible exact ih2 _ _ _ _ _ _ _ _)
   | (with_reducible exact ih3 _ _ _ _ _ _ _ _ _ _ _)
   | (with_reducible exact ih4 _ _ _ _ _ _ _ _ _ _ _ _ _ _ _ _)
   | (with_reducible exact impl_expr_atoms.mono _ _ _ _)
   | (with_reducible exact impl_expr_holds.mono _ _ _ _ _)
   | (with_reducible exact impl_readExpr.mono _ _)
   | (with_reducible exact LeO.refl _)
   | (with_reducible exact LeO.none _)
   | (with_reducible refine LeO.ite ?_ ?_)
   | (with_reducible refine LeO.bind ?_ (fun _ => ?_))
   | refine LeO.ite ?_ ?_
   | refine LeO.bind ?_ (fun _ => ?_)
def impl_SameExpr.T29 : Bool × List (List Nat × List Nat) := (true, [([], []), ([], []), ([], []), ([0, 1, 2], [0, 1, 2]), ([], []), ([], []), ([], []), ([4, 5, 6, 3], [4, 5, 6]), ([3, 7], [3, 7])])
def impl_SameExpr.B29 : List Nat := [0, 0, 0, 7, 0, 0, 0, 127, 255]
theorem impl_SameExpr.tab29 : rtab .any (opsOf Try.f12 29) = impl_SameExpr.T29 := by kernel_rfl
theorem impl_SameExpr.bits29 : waitsOk impl_SameExpr.T29.2 impl_SameExpr.B29 = true := by kernel_rfl
set_option maxHeartbeats 8000000 in
set_option maxRecDepth 100000 in
theorem impl_SameExpr.calls (k : Nat) (a0 : ByteArray) (a1 : ByteArray) (r : Bool) (w : World) (h : impl_SameExpr.f k a0 a1 = some r) :
  Calls Try.prog 12 #[.string a0, .string a1] w fun e w' => e = .returned (.bool r) ∧ Below w.heap.size w w' := by
 have hu55 := Try.underlying55; have HB := Aside0.mk (Below.refl w.heap.size w)
 have H : ((impl_readExpr.f k a0).bind fun bt194 => ((impl_readExpr.f k a1).bind fun bt200 => (if bt194.2.2 = true then (impl_SameExpr.j0 k (!bt200.2.2) bt194.1 bt194.2.1 bt200.1 bt200.2.1) else (impl_SameExpr.j0 k true bt194.1 bt194.2.1 bt200.1 bt200.2.1)))) = some r := h
 clear h
 replace H := Option.bind_eq_some_iff.mp H
 obtain ⟨⟨t194, t195, t198⟩, A30, H⟩ := H
 replace H : ((impl_readExpr.f k a1).bind fun bt200 => (if t198 = true then (impl_SameExpr.j0 k (!bt200.2.2) t194 t195 bt200.1 bt200.2.1) else (impl_SameExpr.j0 k true t194 t195 bt200.1 bt200.2.1))) = some r := H
 have A3 := Aside0.mk A30; clear A30
 replace H := Option.bind_eq_some_iff.mp H
 obtain ⟨⟨t200, t201, t204⟩, A40, H⟩ := H
 replace H : (if t198 = true then (impl_SameExpr.j0 k (!t204) t194 t195 t200 t201) else (impl_SameExpr.j0 k true t194 t195 t200 t201)) = some r := H
 have A4 := Aside0.mk A40; clear A40; have HC5 := Aside0.mk H; clear H
 go_enter Try.func12, Try.ntmps12
 go_upto_region 3 with (first | ((with_reducible refine gate_callee (f := 46) rfl ?_); refine goesL_ (some 22) rfl rfl Try.func46 (by kernel_rfl) rfl #[.string a0] rfl (by (try simp only [List.map_toArray, List.map_cons, List.map_nil]); first | done | rfl) ?_; (with_reducible refine (impl_readExpr.calls k a0 t194 t195 t198 _ A3.out).mono ?_); rintro e w6 ⟨v196, rfl, ho0, hb⟩; refine ⟨_, rfl, ?_⟩; have HO197 := Aside0.mk (Kd.R_lower ho0 (below_size (by repeat first | (with_reducible first | exact HB.out | apply below_alloc | apply pw_below_drewN | apply below_drew1) | exact HB.out))); replace HB := Aside0.mk (below_step (by repeat first | (with_reducible first | exact HB.out | apply below_alloc | apply pw_below_drewN | apply below_drew1) | exact HB.out) hb); (try clear hb); (try clear ho0)) | ((with_reducible refine gate_dst (N := 5) rfl ?_); refine box_event ?hg (N := 5) ?hd (cs := #[.string (⟨#[]⟩ : ByteArray), .slice none 0 0]) (t := 55) ?hr ?_; (case hd => rfl); (case hg => rfl); (case hr => first | (go_simp; done) | (go_simp; rfl)); intro gb199 hg w7 hbox hb; replace HO197 := Aside0.mk (Kd.R_below (Kd.R_elderB (by (with_reducible repeat first | apply Kd.R_alloc | apply Kd.R_drewN | apply Kd.R_drew); exact HO197.out) gb199 (Nat.le_of_eq hg.symm)) hb); have BK199 := Aside0.mk (hbox); have GW199 := Aside0.mk ((by rw [hg]; exact (below_size (by repeat first | (with_reducible first | exact HB.out | apply below_alloc | apply pw_below_drewN | apply below_drew1) | exact HB.out)) : w.heap.size ≤ gb199)); have GE199 := Aside0.mk ((by rw [hg]; exact (below_size (by repeat first | (with_reducible first | exact HB.out | apply below_alloc | apply pw_below_drewN | apply below_drew1) | exact HB.out)) : w.heap.size ≤ gb199)); replace HB := Aside0.mk (below_step (by repeat first | (with_reducible first | exact HB.out | apply below_alloc | apply pw_below_drewN | apply below_drew1) | exact HB.out) hb); clear hb hbox hg; have hcz8_0 : w7.cell? ⟨gb199, 0, none⟩ = some (.string (⟨#[]⟩ : ByteArray)) := (blk_cell BK199.out 0).trans rfl; have hcz8_1 : w7.cell? ⟨gb199, 1, none⟩ = some (.slice none 0 0) := (blk_cell BK199.out 1).trans rfl; have hfz8_0 := blk_frozen BK199.out 0; have hfz8_1 := blk_frozen BK199.out 1; obtain ⟨Ao9, co9, eo9⟩ := Kd.R_slice HO197.out; subst eo9) | ((with_reducible refine gate_callee (f := 46) rfl ?_); refine goesL_ (some 27) rfl rfl Try.func46 (by kernel_rfl) rfl #[.string a1] rfl (by (try simp only [List.map_toArray, List.map_cons, List.map_nil]); first | done | rfl) ?_; (with_reducible refine (impl_readExpr.calls k a1 t200 t201 t204 _ A4.out).mono ?_); rintro e w10 ⟨v202, rfl, ho0, hb⟩; refine ⟨_, rfl, ?_⟩; have HO203 := Aside0.mk (Kd.R_lower (Kd.R_newB (Kd.R_new' ho0 (Kd.R_lt (by (with_reducible repeat first | apply Kd.R_alloc | apply Kd.R_drewN | apply Kd.R_drew); exact (Kd.R_mono (Kd.R_far (p := ⟨gb199, 1, none⟩) (Kd.R_far (p := ⟨gb199, 0, none⟩) (Kd.R_mono HO197.out (fun k_ hk => (⟨hk, hk.2⟩ : _ ∧ k_ ≠ gb199))) (fun _ hk => hk.2) (.string t194)) (fun _ hk => hk.2) (.slice Ao9 t195.length co9)) (fun _ h_ => h_.1))))) (g := gb199) (o := .cells #[.string t194, .slice Ao9 t195.length co9] 55 (0, 0)) (by (with_reducible repeat first | apply blk_drewN | apply blk_drew | apply blk_alloc); refine blk_put (cs := #[.string t194, .slice none 0 0]) ?_ 1 _ rfl; (with_reducible repeat first | apply blk_drewN | apply blk_drew | apply blk_alloc); refine blk_put (cs := #[.string (⟨#[]⟩ : ByteArray), .slice none 0 0]) ?_ 0 _ rfl; (with_reducible repeat first | apply blk_drewN | apply blk_drew | apply blk_alloc); exact BK199.out)) (below_size (by repeat first | (with_reducible first | exact HB.out | apply below_alloc | apply pw_below_drewN | apply below_drew1 | refine below_set ?_ GE199.out) | exact HB.out))); replace HO197 := Aside0.mk (Kd.R_elder' (by (with_reducible repeat first | apply Kd.R_alloc | apply Kd.R_drewN | apply Kd.R_drew); exact (Kd.R_mono (Kd.R_far (p := ⟨gb199, 1, none⟩) (Kd.R_far (p := ⟨gb199, 0, none⟩) (Kd.R_mono HO197.out (fun k_ hk => (⟨hk, hk.2⟩ : _ ∧ k_ ≠ gb199))) (fun _ hk => hk.2) (.string t194)) (fun _ hk => hk.2) (.slice Ao9 t195.length co9)) (fun _ h_ => h_.1))) (Kd.R_base ho0) hb); replace BK199 := Aside0.mk (blk_below (g := gb199) (o := .cells #[.string t194, .slice Ao9 t195.length co9] 55 (0, 0)) (by (with_reducible repeat first | apply blk_drewN | apply blk_drew | apply blk_alloc); refine blk_put (cs := #[.string t194, .slice none 0 0]) ?_ 1 _ rfl; (with_reducible repeat first | apply blk_drewN | apply blk_drew | apply blk_alloc); refine blk_put (cs := #[.string (⟨#[]⟩ : ByteArray), .slice none 0 0]) ?_ 0 _ rfl; (with_reducible repeat first | apply blk_drewN | apply blk_drew | apply blk_alloc); exact BK199.out) hb); replace HB := Aside0.mk (below_step (by repeat first | (with_reducible first | exact HB.out | apply below_alloc | apply pw_below_drewN | apply below_drew1 | refine below_set ?_ GE199.out) | exact HB.out) hb); (try clear hb); (try clear ho0)) | ((with_reducible refine gate_dst (N := 7) rfl ?_); refine box_event ?hg (N := 7) ?hd (cs := #[.string (⟨#[]⟩ : ByteArray), .slice none 0 0]) (t := 55) ?hr ?_; (case hd => rfl); (case hg => rfl); (case hr => first | (go_simp; done) | (go_simp; rfl)); intro gb205 hg w11 hbox hb; replace HO197 := Aside0.mk (Kd.R_below (Kd.R_elderB (by (with_reducible repeat first | apply Kd.R_alloc | apply Kd.R_drewN | apply Kd.R_drew); exact HO197.out) gb205 (Nat.le_of_eq hg.symm)) hb); replace HO203 := Aside0.mk (Kd.R_below (Kd.R_elderB (by (with_reducible repeat first | apply Kd.R_alloc | apply Kd.R_drewN | apply Kd.R_drew); exact HO203.out) gb205 (Nat.le_of_eq hg.symm)) hb); have BK205 := Aside0.mk (hbox); have GW205 := Aside0.mk ((by rw [hg]; exact (below_size (by repeat first | (with_reducible first | exact HB.out | apply below_alloc | apply pw_below_drewN | apply below_drew1 | refine below_set ?_ GE199.out) | exact HB.out)) : w.heap.size ≤ gb205)); have GE205 := Aside0.mk ((by rw [hg]; exact (below_size (by repeat first | (with_reducible first | exact HB.out | apply below_alloc | apply pw_below_drewN | apply below_drew1 | refine below_set ?_ GE199.out) | exact HB.out)) : w.heap.size ≤ gb205)); replace HB := Aside0.mk (below_step (by repeat first | (with_reducible first | exact HB.out | apply below_alloc | apply pw_below_drewN | apply below_drew1 | refine below_set ?_ GE199.out) | exact HB.out) hb); have NB199_205 := Aside0.mk ((by rw [hg]; exact Nat.ne_of_lt (blk_lt (g := gb199) (o := .cells #[.string t194, .slice Ao9 t195.length co9] 55 (0, 0)) (by (with_reducible repeat first | apply blk_drewN | apply blk_drew | apply blk_alloc); exact BK199.out)) : gb199 ≠ gb205)); have NB205_199 := Aside0.mk ((by rw [hg]; exact Nat.ne_of_gt (blk_lt (g := gb199) (o := .cells #[.string t194, .slice Ao9 t195.length co9] 55 (0, 0)) (by (with_reducible repeat first | apply blk_drewN | apply blk_drew | apply blk_alloc); exact BK199.out)) : gb205 ≠ gb199)); replace BK199 := Aside0.mk (blk_below (g := gb199) (o := .cells #[.string t194, .slice Ao9 t195.length co9] 55 (0, 0)) (by (with_reducible repeat first | apply blk_drewN | apply blk_drew | apply blk_alloc); exact BK199.out) hb); clear hb hbox hg; have hnb12 := NB205_199.out; have hnc12 := NB199_205.out; have hcz13_0 : w11.cell? ⟨gb205, 0, none⟩ = some (.string (⟨#[]⟩ : ByteArray)) := (blk_cell BK205.out 0).trans rfl; have hcz13_1 : w11.cell? ⟨gb205, 1, none⟩ = some (.slice none 0 0) := (blk_cell BK205.out 1).trans rfl; have hfz13_0 := blk_frozen BK205.out 0; have hfz13_1 := blk_frozen BK205.out 1; obtain ⟨Ao14, co14, eo14⟩ := Kd.R_slice HO203.out; subst eo14))
 (try simp only [Act.put, List.setIfInBounds_toArray, List.set_cons_zero, List.set_cons_succ])
 go_cut [35] (fun v35 wc => ∃ (kq : Nat) (x35_4 : Bool), v35 = .bool x35_4 ∧ Aside0 (impl_SameExpr.j0 kq x35_4 t194 t195 t200 t201 = some r) ∧ Aside0 (kq ≤ k) ∧ Aside0 (Kd.R k55 55 wc w.heap.size (fun k_ => some k_ ≠ ((.slice Ao14 t201.length co14) : Value).ownBlock ∧ k_ ≠ gb199 ∧ k_ ≠ gb205) (.slice Ao9 t195.length co9) t195) ∧ Aside0 (Kd.R k55 55 wc w.heap.size (fun k_ => some k_ ≠ ((.slice Ao9 t195.length co9) : Value).ownBlock ∧ k_ ≠ gb199 ∧ k_ ≠ gb205) (.slice Ao14 t201.length co14) t201) ∧ Aside0 (wc.heap[gb199]? = some (.cells #[.string t194, (.slice Ao9 t195.length co9)] 55 (0, 0))) ∧ Aside0 (wc.heap[gb205]? = some (.cells #[.string t200, (.slice Ao14 t201.length co14)] 55 (0, 0))) ∧ Aside0 (Below w.heap.size w wc))
 case first =>
  have H := HC5.out; clear HC5
  by_cases c15 : t198 = true
  ·subst c15
   have H1 : (impl_SameExpr.j0 k (!t204) t194 t195 t200 t201) = some r := by rw [if_pos rfl] at H; exact H
   clear H; have H := H1; clear H1; have H' := Aside0.mk H; clear H
   go_wp2
   go_meet
   case rel => exact ⟨_, (!t204), (by first | rfl | (simp; done) | (simp [*]; done)), H', ⟨by first | omega | exact Nat.le_refl _⟩, ⟨by (with_reducible repeat first | apply Kd.R_alloc | apply Kd.R_drewN | apply Kd.R_drew); exact Kd.R_mono (Kd.R_far (p := ⟨gb205, 1, none⟩) (Kd.R_far (p := ⟨gb205, 0, none⟩) (Kd.R_mono HO197.out (fun k_ hk => (⟨hk, hk.2⟩ : _ ∧ k_ ≠ gb205))) (fun _ hk => hk.2) (.string t200)) (fun _ hk => hk.2) (.slice Ao14 t201.length co14)) (fun _ hk => ⟨hk.1.1.2, ⟨hk.1.1.1.2, hk.1.2⟩⟩)⟩, ⟨by (with_reducible repeat first | apply Kd.R_alloc | apply Kd.R_drewN | apply Kd.R_drew); exact Kd.R_mono (Kd.R_far (p := ⟨gb205, 1, none⟩) (Kd.R_far (p := ⟨gb205, 0, none⟩) (Kd.R_mono HO203.out (fun k_ hk => (⟨hk, hk.2⟩ : _ ∧ k_ ≠ gb205))) (fun _ hk => hk.2) (.string t200)) (fun _ hk => hk.2) (.slice Ao14 t201.length co14)) (fun _ hk => ⟨hk.1.1.1.2, ⟨hk.1.1.2, hk.1.2⟩⟩)⟩, ⟨by (with_reducible repeat first | apply blk_drewN | apply blk_drew | apply blk_alloc); refine blk_far ?_ NB199_205.out _; (with_reducible repeat first | apply blk_drewN | apply blk_drew | apply blk_alloc); refine blk_far ?_ NB199_205.out _; (with_reducible repeat first | apply blk_drewN | apply blk_drew | apply blk_alloc); exact BK199.out⟩, ⟨by (with_reducible repeat first | apply blk_drewN | apply blk_drew | apply blk_alloc); refine blk_put (cs := #[.string t200, .slice none 0 0]) ?_ 1 _ rfl; (with_reducible repeat first | apply blk_drewN | apply blk_drew | apply blk_alloc); refine blk_put (cs := #[.string (⟨#[]⟩ : ByteArray), .slice none 0 0]) ?_ 0 _ rfl; (with_reducible repeat first | apply blk_drewN | apply blk_drew | apply blk_alloc); exact BK205.out⟩, ⟨by repeat (first | (with_reducible first | exact HB.out | apply below_alloc | apply pw_below_drewN | apply below_drew1 | refine below_set ?_ GE199.out | refine below_set ?_ GE205.out) | exact HB.out)⟩⟩
  ·replace c15 := Bool.eq_false_iff.mpr c15
   subst c15
   have H1 : (impl_SameExpr.j0 k true t194 t195 t200 t201) = some r := by rw [if_neg (show ¬ (false = true) by decide)] at H; exact H
   clear H; have H := H1; clear H1; have H' := Aside0.mk H; clear H
   go_wp2
   go_meet
   case rel => exact ⟨_, (true), (by first | rfl | (simp; done) | (simp [*]; done)), H', ⟨by first | omega | exact Nat.le_refl _⟩, ⟨by (with_reducible repeat first | apply Kd.R_alloc | apply Kd.R_drewN | apply Kd.R_drew); exact Kd.R_mono (Kd.R_far (p := ⟨gb205, 1, none⟩) (Kd.R_far (p := ⟨gb205, 0, none⟩) (Kd.R_mono HO197.out (fun k_ hk => (⟨hk, hk.2⟩ : _ ∧ k_ ≠ gb205))) (fun _ hk => hk.2) (.string t200)) (fun _ hk => hk.2) (.slice Ao14 t201.length co14)) (fun _ hk => ⟨hk.1.1.2, ⟨hk.1.1.1.2, hk.1.2⟩⟩)⟩, ⟨by (with_reducible repeat first | apply Kd.R_alloc | apply Kd.R_drewN | apply Kd.R_drew); exact Kd.R_mono (Kd.R_far (p := ⟨gb205, 1, none⟩) (Kd.R_far (p := ⟨gb205, 0, none⟩) (Kd.R_mono HO203.out (fun k_ hk => (⟨hk, hk.2⟩ : _ ∧ k_ ≠ gb205))) (fun _ hk => hk.2) (.string t200)) (fun _ hk => hk.2) (.slice Ao14 t201.length co14)) (fun _ hk => ⟨hk.1.1.1.2, ⟨hk.1.1.2, hk.1.2⟩⟩)⟩, ⟨by (with_reducible repeat first | apply blk_drewN | apply blk_drew | apply blk_alloc); refine blk_far ?_ NB199_205.out _; (with_reducible repeat first | apply blk_drewN | apply blk_drew | apply blk_alloc); refine blk_far ?_ NB199_205.out _; (with_reducible repeat first | apply blk_drewN | apply blk_drew | apply blk_alloc); exact BK199.out⟩, ⟨by (with_reducible repeat first | apply blk_drewN | apply blk_drew | apply blk_alloc); refine blk_put (cs := #[.string t200, .slice none 0 0]) ?_ 1 _ rfl; (with_reducible repeat first | apply blk_drewN | apply blk_drew | apply blk_alloc); refine blk_put (cs := #[.string (⟨#[]⟩ : ByteArray), .slice none 0 0]) ?_ 0 _ rfl; (with_reducible repeat first | apply blk_drewN | apply blk_drew | apply blk_alloc); exact BK205.out⟩, ⟨by repeat (first | (with_reducible first | exact HB.out | apply below_alloc | apply pw_below_drewN | apply below_drew1 | refine below_set ?_ GE199.out | refine below_set ?_ GE205.out) | exact HB.out)⟩⟩
 case rest =>
  clear HC5; try clear c1; try clear p2; try clear c4; try clear c12; try clear c15; try clear hcz13_0; try clear hcz13_1; try clear hcz8_0; try clear hcz8_1; try clear hfz13_0; try clear hfz13_1; try clear hfz8_0; try clear hfz8_1
  obtain ⟨kq, x35_4, rfl, HA, HJ4, HO_200001, HO_206001, BK199, BK205, HB⟩ := hcut
  cases kq with
  | zero => exact absurd HA.out (by simp [impl_SameExpr.j0])
  | succ kj4 =>
   have H := HA.out; clear HA
   simp only [impl_SameExpr.j0] at H
   by_cases c16 : x35_4 = true
   ·subst c16
    have H1 : (some false) = some r := by rw [if_pos rfl] at H; exact H
    clear H; have H := H1; clear H1
    obtain rfl := Option.some.inj H
    go_wp2
    go_ret
    exact ⟨by first | rfl | (simp [errW_none, errW_some] <;> rfl) | (simp [*, errW_none, errW_some] <;> rfl), by repeat (first | (with_reducible first | exact HB.out | apply below_alloc | apply pw_below_drewN | apply below_drew1 | refine below_set ?_ GE199.out | refine below_set ?_ GE205.out) | exact HB.out)⟩
   ·replace c16 := Bool.eq_false_iff.mpr c16
    subst c16
    have H1 : ((impl_expr_atoms.f kj4 t194 t195 ([] : List ByteArray)).bind fun t206 => ((impl_expr_atoms.f kj4 t200 t201 t206).bind fun t209 => (if (t209.length : Int) > 6 then (some false) else (impl_SameExpr.l0 kj4 (([(⟨#[]⟩ : ByteArray)] : List ByteArray)) (([] : List ByteArray)) t209 (t209.length : Int) 0 t194 t195 t200 t201)))) = some r := by rw [if_neg (show ¬ (false = true) by decide)] at H; exact H
    clear H; have H := H1; clear H1
    replace H := Option.bind_eq_some_iff.mp H
    obtain ⟨t206, A170, H⟩ := H
    replace H : ((impl_expr_atoms.f kj4 t200 t201 t206).bind fun t209 => (if (t209.length : Int) > 6 then (some false) else (impl_SameExpr.l0 kj4 (([(⟨#[]⟩ : ByteArray)] : List ByteArray)) (([] : List ByteArray)) t209 (t209.length : Int) 0 t194 t195 t200 t201))) = some r := H
    have A17 := Aside0.mk A170; clear A170
    replace H := Option.bind_eq_some_iff.mp H
    obtain ⟨t209, A180, H⟩ := H
    replace H : (if (t209.length : Int) > 6 then (some false) else (impl_SameExpr.l0 kj4 (([(⟨#[]⟩ : ByteArray)] : List ByteArray)) (([] : List ByteArray)) t209 (t209.length : Int) 0 t194 t195 t200 t201)) = some r := H
    have A18 := Aside0.mk A180; clear A180
    by_cases c19 : (t209.length : Int) > 6
    ·rw [if_pos c19] at H
     have c19b0 : decide (6 < (t209.length : Int)) = true := decide_eq_true c19
     have c19b1 : decide (6 < t209.length) = true := decide_eq_true (by omega)
     clear c19
     obtain rfl := Option.some.inj H
     try go_wp2; replace HO_200001 := Aside0.mk (Kd.R_drew HO_200001.out); replace HO_206001 := Aside0.mk (Kd.R_drew HO_206001.out); replace BK199 := Aside0.mk (blk_drew BK199.out); replace BK205 := Aside0.mk (blk_drew BK205.out); replace HB := Aside0.mk (below_drew1 HB.out)
     refine start_ (n := 5) (S := fun w' => w'.cell? ⟨gb205, 0, none⟩ = some (.string t200) ∧ w'.cell? ⟨gb205, 1, none⟩ = some (.slice Ao14 t201.length co14) ∧ w'.cell? ⟨gb199, 0, none⟩ = some (.string t194) ∧ w'.cell? ⟨gb199, 1, none⟩ = some (.slice Ao9 t195.length co9)) (ds := []) #[ff,ff,ff,ff,ff] (by kernel_rfl) rfl rfl ⟨(blk_cell BK205.out 0).trans rfl, (blk_cell BK205.out 1).trans rfl, (blk_cell BK199.out 0).trans rfl, (blk_cell BK199.out 1).trans rfl⟩ (fun hHeld => ?_)
     generalize wc.drew = w20 at HO_200001 HO_206001 BK199 BK205 HB hHeld ⊢
     refine take_ (i := 0) (N := some 36) (v := ?_) (a' := ?_) #[tt,ff,ff,ff,ff] rfl rfl (by kernel_rfl) (fun _ _ _ h => h) (Or.inl ⟨by rfl, ?_⟩) hHeld ?_ ?_
     rotate_left
     ·rintro w' ⟨s0, s1, s2, s3⟩
      go_simp
      with_reducible rfl
     rotate_left
     ·simp only [Act.put, ps_]
      rfl
     refine take_ (i := 1) (N := some 37) (v := ?_) (a' := ?_) #[tt,tt,ff,ff,ff] rfl rfl (by kernel_rfl) (fun _ _ _ h => h) (Or.inl ⟨by rfl, ?_⟩) hHeld ?_ ?_
     rotate_left
     ·rintro w' ⟨s0, s1, s2, s3⟩
      go_simp
      with_reducible rfl
     rotate_left
     ·simp only [Act.put, ps_]
      rfl
     refine one_ (i := 2) (N := some 38) #[tt,tt,tt,ff,ff] rfl rfl (by kernel_rfl) (by decide) (fun K hK => ?_)
     refine goes_ Try.func47 (by kernel_rfl) rfl #[.agg #[.string t194, .slice Ao9 t195.length co9], .slice none 0 0] (by rfl) rfl rfl (by (try simp only [List.map_toArray, List.map_cons, List.map_nil]); first | done | rfl) ?_
     refine (impl_expr_atoms.calls kj4 t194 _ _ t195 (fun k_ => some k_ = (.slice none 0 0 : Value).ownBlock) (.slice none 0 0) ([] : List ByteArray) t206 w _ ?side1 ?side2 ?side3 ?side4 A17.out).mono ?_
     (case side1 => repeat (first | (with_reducible first | exact HB.out | apply below_alloc | apply pw_below_drewN | apply below_drew1 | refine below_set ?_ GE199.out | refine below_set ?_ GE205.out) | exact HB.out))
     (case side2 => exact Kd.C_kept_own (HO_200001.out) (fun k_ hk_ hs_ => (fun e_ => by simp [Value.ownBlock] at e_) hs_))
     (case side3 => exact (Kd.R_reads' HO_200001.out).2.1)
     (case side4 => exact Kd.R_nil _ _ _ _ _)
     rintro e w21 ⟨v207, rfl, ho0, hb, hkp⟩
     refine ⟨_, rfl, ?_⟩
     have n0_ := Aside0.mk (Kd.R_mono (ok' := fun k_ => some k_ ≠ (.slice Ao14 t201.length co14 : Value).ownBlock ∧ k_ ≠ gb199 ∧ k_ ≠ gb205) (Kd.R_keptB (HO_200001.out) hkp (fun k_ hk_ hs_ => (fun e_ => by simp [Value.ownBlock] at e_) hs_)) (fun k_ hk_ => ⟨hk_.1.1, hk_.1.2.1, hk_.1.2.2⟩))
     have n1_ := Aside0.mk (Kd.R_mono (ok' := fun k_ => some k_ ≠ (.slice Ao9 t195.length co9 : Value).ownBlock ∧ k_ ≠ gb199 ∧ k_ ≠ gb205) (Kd.R_keptB (HO_206001.out) hkp (fun k_ hk_ hs_ => (fun e_ => by simp [Value.ownBlock] at e_) hs_)) (fun k_ hk_ => ⟨hk_.1.1, hk_.1.2.1, hk_.1.2.2⟩))
     have n2_ := Aside0.mk (blk_kept (by (with_reducible repeat first | apply blk_drewN | apply blk_drew | apply blk_alloc); exact BK199.out) hkp (fun hs_ => (fun e_ => by simp [Value.ownBlock] at e_) hs_))
     have n3_ := Aside0.mk (blk_kept (by (with_reducible repeat first | apply blk_drewN | apply blk_drew | apply blk_alloc); exact BK205.out) hkp (fun hs_ => (fun e_ => by simp [Value.ownBlock] at e_) hs_))
     have n4_ := Aside0.mk (Kd.R_mono (ok' := fun k_ => True) ho0 (fun k_ hk_ => trivial)); have n5_ := Aside0.mk (hb); clear HO_200001 HO_206001 BK199 BK205 HB; have HO_200001 := n0_; have HO_206001 := n1_; have BK199 := n2_; have BK205 := n3_; have HO208 := n4_; have HB := n5_; clear n0_ n1_ n2_ n3_ n4_ n5_
     (try clear hb)
     (try clear hkp)
     (try clear ho0)
     obtain ⟨Ao22, co22, eo22⟩ := Kd.R_slice HO208.out
     (first | subst eo22 | (injection eo22 with f1_ f2_ f3_; have f4_ := f1_.symm; have f5_ := f3_.symm; clear f1_ f2_ f3_; subst f4_; subst f5_))
     refine hK.out _ _ ⟨(blk_cell BK205.out 0).trans rfl, (blk_cell BK205.out 1).trans rfl, (blk_cell BK199.out 0).trans rfl, (blk_cell BK199.out 1).trans rfl⟩ (fun hHeld => ?_)
     clear hK K
     refine norm_ (a' := ?_) ?_ ?_
     rotate_left
     ·show Act.put _ (some 38) _ = _
      simp only [Act.put, ps_]
      rfl
     refine one_ (i := 3) (N := some 39) #[tt,tt,tt,tt,ff] rfl rfl (by kernel_rfl) (by decide) (fun K hK => ?_)
     refine goes_ Try.func47 (by kernel_rfl) rfl #[.agg #[.string t200, .slice Ao14 t201.length co14], .slice Ao22 t206.length co22] (by rfl) rfl rfl (by (try simp only [List.map_toArray, List.map_cons, List.map_nil]); first | done | rfl) ?_
     with_reducible refine (impl_expr_atoms.calls kj4 t200 _ _ t201 (fun k_ => some k_ = (.slice Ao22 t206.length co22 : Value).ownBlock) (.slice Ao22 t206.length co22) t206 t209 w _ ?side1 ?side2 ?side3 ?side4 A18.out).mono ?_
     (case side1 => repeat (first | (with_reducible first | exact HB.out | apply below_alloc | apply pw_below_drewN | apply below_drew1 | refine below_set ?_ GE199.out | refine below_set ?_ GE205.out) | exact HB.out))
     (case side2 => exact Kd.C_kept_own ((Kd.R_apart' HO_206001.out (Kd.R_typed HO208.out) (by decide))) (fun k_ hk_ hs_ => (hk_.2) hs_))
     (case side3 => exact (Kd.R_reads' HO_206001.out).2.1)
     (case side4 => exact Kd.R_tight rfl HO208.out)
     rintro e w23 ⟨v210, rfl, ho0, hb, hkp⟩
     refine ⟨_, rfl, ?_⟩
     have n0_ := Aside0.mk (Kd.R_mono (ok' := fun k_ => some k_ ≠ (.slice Ao14 t201.length co14 : Value).ownBlock ∧ k_ ≠ gb199 ∧ k_ ≠ gb205) (Kd.R_keptB ((Kd.R_apart' HO_200001.out (Kd.R_typed HO208.out) (by decide))) hkp (fun k_ hk_ hs_ => (hk_.2) hs_)) (fun k_ hk_ => ⟨hk_.1.1.1, hk_.1.1.2.1, hk_.1.1.2.2⟩)); have n1_ := Aside0.mk (Kd.R_mono (ok' := fun k_ => some k_ ≠ (.slice Ao9 t195.length co9 : Value).ownBlock ∧ k_ ≠ gb199 ∧ k_ ≠ gb205) (Kd.R_keptB ((Kd.R_apart' HO_206001.out (Kd.R_typed HO208.out) (by decide))) hkp (fun k_ hk_ hs_ => (hk_.2) hs_)) (fun k_ hk_ => ⟨hk_.1.1.1, hk_.1.1.2.1, hk_.1.1.2.2⟩))
     have n2_ := Aside0.mk (blk_kept (by (with_reducible repeat first | apply blk_drewN | apply blk_drew | apply blk_alloc); exact BK199.out) hkp (fun hs_ => (fun e_ => (Kd.R_ne HO208.out BK199.out (by decide)) e_) hs_))
     have n3_ := Aside0.mk (blk_kept (by (with_reducible repeat first | apply blk_drewN | apply blk_drew | apply blk_alloc); exact BK205.out) hkp (fun hs_ => (fun e_ => (Kd.R_ne HO208.out BK205.out (by decide)) e_) hs_))
     have n4_ := Aside0.mk (Kd.R_mono (ok' := fun k_ => True) ho0 (fun k_ hk_ => trivial)); have n5_ := Aside0.mk (hb); clear HO_200001 HO_206001 BK199 BK205 HB HO208; have HO_200001 := n0_; have HO_206001 := n1_; have BK199 := n2_; have BK205 := n3_; have HO211 := n4_; have HB := n5_; clear n0_ n1_ n2_ n3_ n4_ n5_
     (try clear hb)
     (try clear hkp)
     (try clear ho0)
     refine hK.out _ _ ⟨(blk_cell BK205.out 0).trans rfl, (blk_cell BK205.out 1).trans rfl, (blk_cell BK199.out 0).trans rfl, (blk_cell BK199.out 1).trans rfl⟩ (fun hHeld => ?_)
     clear hK K
     refine norm_ (a' := ?_) ?_ ?_
     rotate_left
     ·show Act.put _ (some 39) _ = _
      simp only [Act.put, ps_]
      rfl
     refine pure_ (i := 4) (N := some 9) (v := ?_) (a' := ?_) #[tt,tt,tt,tt,tt] rfl rfl (by kernel_rfl) (fun _ _ _ h => h) (Or.inl ⟨by rfl, ?_⟩) ?_ ?_
     rotate_left
     ·intro w'
      go_simp
      with_reducible rfl
     rotate_left
     ·simp only [Act.put, ps_]
      rfl
     refine done_ (by kernel_rfl) ?_
     obtain ⟨Ao24, co24, eo24⟩ := Kd.R_slice HO211.out
     subst eo24; try go_wp2
     go_ret
     exact ⟨by first | rfl | (simp [errW_none, errW_some] <;> rfl) | (simp [*, errW_none, errW_some] <;> rfl), by repeat (first | (with_reducible first | exact HB.out | apply below_alloc | apply pw_below_drewN | apply below_drew1 | refine below_set ?_ GE199.out | refine below_set ?_ GE205.out) | exact HB.out)⟩
    ·rw [if_neg c19] at H
     have c19b0 : decide (6 < (t209.length : Int)) = false := decide_eq_false c19
     have c19b1 : decide (6 < t209.length) = false := decide_eq_false (by omega)
     clear c19
     obtain ⟨y212, hy212⟩ : ∃ y_ : List ByteArray, y_ = (([(⟨#[]⟩ : ByteArray)] : List ByteArray)) := ⟨_, rfl⟩
     replace H : (impl_SameExpr.l0 kj4 y212 (([] : List ByteArray)) t209 (t209.length : Int) 0 t194 t195 t200 t201) = some r := by first | (rw [hy212]; with_reducible exact H) | (have H2_ := (Option.bind_some _ _).symm.trans H; rw [hy212]; with_reducible exact H2_) | (have H2_ := (Option.bind_some _ _).symm.trans H; with_reducible exact H2_) | with_reducible exact H | (rw [hy212]; exact H) | exact H
     have Ny212 := Aside0.mk hy212; clear hy212
     obtain ⟨y215, hy215⟩ : ∃ y_ : List ByteArray, y_ = (([] : List ByteArray)) := ⟨_, rfl⟩
     replace H : (impl_SameExpr.l0 kj4 y212 y215 t209 (t209.length : Int) 0 t194 t195 t200 t201) = some r := by first | (rw [hy215]; with_reducible exact H) | (have H2_ := (Option.bind_some _ _).symm.trans H; rw [hy215]; with_reducible exact H2_) | (have H2_ := (Option.bind_some _ _).symm.trans H; with_reducible exact H2_) | with_reducible exact H | (rw [hy215]; exact H) | exact H
     have Ny215 := Aside0.mk hy215; clear hy215; have H' := Aside0.mk H; clear H; try go_wp2; replace HO_200001 := Aside0.mk (Kd.R_drew HO_200001.out); replace HO_206001 := Aside0.mk (Kd.R_drew HO_206001.out); replace BK199 := Aside0.mk (blk_drew BK199.out); replace BK205 := Aside0.mk (blk_drew BK205.out); replace HB := Aside0.mk (below_drew1 HB.out)
     refine start_ (n := 5) (S := fun w' => w'.cell? ⟨gb205, 0, none⟩ = some (.string t200) ∧ w'.cell? ⟨gb205, 1, none⟩ = some (.slice Ao14 t201.length co14) ∧ w'.cell? ⟨gb199, 0, none⟩ = some (.string t194) ∧ w'.cell? ⟨gb199, 1, none⟩ = some (.slice Ao9 t195.length co9)) (ds := []) #[ff,ff,ff,ff,ff] (by kernel_rfl) rfl rfl ⟨(blk_cell BK205.out 0).trans rfl, (blk_cell BK205.out 1).trans rfl, (blk_cell BK199.out 0).trans rfl, (blk_cell BK199.out 1).trans rfl⟩ (fun hHeld => ?_)
     generalize wc.drew = w25 at HO_200001 HO_206001 BK199 BK205 HB hHeld ⊢
     refine take_ (i := 0) (N := some 36) (v := ?_) (a' := ?_) #[tt,ff,ff,ff,ff] rfl rfl (by kernel_rfl) (fun _ _ _ h => h) (Or.inl ⟨by rfl, ?_⟩) hHeld ?_ ?_
     rotate_left
     ·rintro w' ⟨s0, s1, s2, s3⟩
      go_simp
      with_reducible rfl
     rotate_left
     ·simp only [Act.put, ps_]
      rfl
     refine take_ (i := 1) (N := some 37) (v := ?_) (a' := ?_) #[tt,tt,ff,ff,ff] rfl rfl (by kernel_rfl) (fun _ _ _ h => h) (Or.inl ⟨by rfl, ?_⟩) hHeld ?_ ?_
     rotate_left
     ·rintro w' ⟨s0, s1, s2, s3⟩
      go_simp
      with_reducible rfl
     rotate_left
     ·simp only [Act.put, ps_]
      rfl
     refine one_ (i := 2) (N := some 38) #[tt,tt,tt,ff,ff] rfl rfl (by kernel_rfl) (by decide) (fun K hK => ?_)
     refine goes_ Try.func47 (by kernel_rfl) rfl #[.agg #[.string t194, .slice Ao9 t195.length co9], .slice none 0 0] (by rfl) rfl rfl (by (try simp only [List.map_toArray, List.map_cons, List.map_nil]); first | done | rfl) ?_
     refine (impl_expr_atoms.calls kj4 t194 _ _ t195 (fun k_ => some k_ = (.slice none 0 0 : Value).ownBlock) (.slice none 0 0) ([] : List ByteArray) t206 w _ ?side1 ?side2 ?side3 ?side4 A17.out).mono ?_
     (case side1 => repeat (first | (with_reducible first | exact HB.out | apply below_alloc | apply pw_below_drewN | apply below_drew1 | refine below_set ?_ GE199.out | refine below_set ?_ GE205.out) | exact HB.out))
     (case side2 => exact Kd.C_kept_own (HO_200001.out) (fun k_ hk_ hs_ => (fun e_ => by simp [Value.ownBlock] at e_) hs_))
     (case side3 => exact (Kd.R_reads' HO_200001.out).2.1)
     (case side4 => exact Kd.R_nil _ _ _ _ _)
     rintro e w26 ⟨v207, rfl, ho0, hb, hkp⟩
     refine ⟨_, rfl, ?_⟩
     have n0_ := Aside0.mk (Kd.R_mono (ok' := fun k_ => some k_ ≠ (.slice Ao14 t201.length co14 : Value).ownBlock ∧ k_ ≠ gb199 ∧ k_ ≠ gb205) (Kd.R_keptB (HO_200001.out) hkp (fun k_ hk_ hs_ => (fun e_ => by simp [Value.ownBlock] at e_) hs_)) (fun k_ hk_ => ⟨hk_.1.1, hk_.1.2.1, hk_.1.2.2⟩))
     have n1_ := Aside0.mk (Kd.R_mono (ok' := fun k_ => some k_ ≠ (.slice Ao9 t195.length co9 : Value).ownBlock ∧ k_ ≠ gb199 ∧ k_ ≠ gb205) (Kd.R_keptB (HO_206001.out) hkp (fun k_ hk_ hs_ => (fun e_ => by simp [Value.ownBlock] at e_) hs_)) (fun k_ hk_ => ⟨hk_.1.1, hk_.1.2.1, hk_.1.2.2⟩))
     have n2_ := Aside0.mk (blk_kept (by (with_reducible repeat first | apply blk_drewN | apply blk_drew | apply blk_alloc); exact BK199.out) hkp (fun hs_ => (fun e_ => by simp [Value.ownBlock] at e_) hs_))
     have n3_ := Aside0.mk (blk_kept (by (with_reducible repeat first | apply blk_drewN | apply blk_drew | apply blk_alloc); exact BK205.out) hkp (fun hs_ => (fun e_ => by simp [Value.ownBlock] at e_) hs_))
     have n4_ := Aside0.mk (Kd.R_mono (ok' := fun k_ => True) ho0 (fun k_ hk_ => trivial)); have n5_ := Aside0.mk (hb); clear HO_200001 HO_206001 BK199 BK205 HB; have HO_200001 := n0_; have HO_206001 := n1_; have BK199 := n2_; have BK205 := n3_; have HO208 := n4_; have HB := n5_; clear n0_ n1_ n2_ n3_ n4_ n5_
     (try clear hb)
     (try clear hkp)
     (try clear ho0)
     obtain ⟨Ao27, co27, eo27⟩ := Kd.R_slice HO208.out
     (first | subst eo27 | (injection eo27 with f1_ f2_ f3_; have f4_ := f1_.symm; have f5_ := f3_.symm; clear f1_ f2_ f3_; subst f4_; subst f5_))
     refine hK.out _ _ ⟨(blk_cell BK205.out 0).trans rfl, (blk_cell BK205.out 1).trans rfl, (blk_cell BK199.out 0).trans rfl, (blk_cell BK199.out 1).trans rfl⟩ (fun hHeld => ?_)
     clear hK K
     refine norm_ (a' := ?_) ?_ ?_
     rotate_left
     ·show Act.put _ (some 38) _ = _
      simp only [Act.put, ps_]
      rfl
     refine one_ (i := 3) (N := some 39) #[tt,tt,tt,tt,ff] rfl rfl (by kernel_rfl) (by decide) (fun K hK => ?_)
     refine goes_ Try.func47 (by kernel_rfl) rfl #[.agg #[.string t200, .slice Ao14 t201.length co14], .slice Ao27 t206.length co27] (by rfl) rfl rfl (by (try simp only [List.map_toArray, List.map_cons, List.map_nil]); first | done | rfl) ?_
     with_reducible refine (impl_expr_atoms.calls kj4 t200 _ _ t201 (fun k_ => some k_ = (.slice Ao27 t206.length co27 : Value).ownBlock) (.slice Ao27 t206.length co27) t206 t209 w _ ?side1 ?side2 ?side3 ?side4 A18.out).mono ?_
     (case side1 => repeat (first | (with_reducible first | exact HB.out | apply below_alloc | apply pw_below_drewN | apply below_drew1 | refine below_set ?_ GE199.out | refine below_set ?_ GE205.out) | exact HB.out))
     (case side2 => exact Kd.C_kept_own ((Kd.R_apart' HO_206001.out (Kd.R_typed HO208.out) (by decide))) (fun k_ hk_ hs_ => (hk_.2) hs_))
     (case side3 => exact (Kd.R_reads' HO_206001.out).2.1)
     (case side4 => exact Kd.R_tight rfl HO208.out)
     rintro e w28 ⟨v210, rfl, ho0, hb, hkp⟩
     refine ⟨_, rfl, ?_⟩
     have n0_ := Aside0.mk (Kd.R_mono (ok' := fun k_ => some k_ ≠ (.slice Ao14 t201.length co14 : Value).ownBlock ∧ k_ ≠ gb199 ∧ k_ ≠ gb205) (Kd.R_keptB ((Kd.R_apart' HO_200001.out (Kd.R_typed HO208.out) (by decide))) hkp (fun k_ hk_ hs_ => (hk_.2) hs_)) (fun k_ hk_ => ⟨hk_.1.1.1, hk_.1.1.2.1, hk_.1.1.2.2⟩)); have n1_ := Aside0.mk (Kd.R_mono (ok' := fun k_ => some k_ ≠ (.slice Ao9 t195.length co9 : Value).ownBlock ∧ k_ ≠ gb199 ∧ k_ ≠ gb205) (Kd.R_keptB ((Kd.R_apart' HO_206001.out (Kd.R_typed HO208.out) (by decide))) hkp (fun k_ hk_ hs_ => (hk_.2) hs_)) (fun k_ hk_ => ⟨hk_.1.1.1, hk_.1.1.2.1, hk_.1.1.2.2⟩))
     have n2_ := Aside0.mk (blk_kept (by (with_reducible repeat first | apply blk_drewN | apply blk_drew | apply blk_alloc); exact BK199.out) hkp (fun hs_ => (fun e_ => (Kd.R_ne HO208.out BK199.out (by decide)) e_) hs_))
     have n3_ := Aside0.mk (blk_kept (by (with_reducible repeat first | apply blk_drewN | apply blk_drew | apply blk_alloc); exact BK205.out) hkp (fun hs_ => (fun e_ => (Kd.R_ne HO208.out BK205.out (by decide)) e_) hs_))
     have n4_ := Aside0.mk (Kd.R_mono (ok' := fun k_ => True) ho0 (fun k_ hk_ => trivial)); have n5_ := Aside0.mk (hb); clear HO_200001 HO_206001 BK199 BK205 HB HO208; have HO_200001 := n0_; have HO_206001 := n1_; have BK199 := n2_; have BK205 := n3_; have HO211 := n4_; have HB := n5_; clear n0_ n1_ n2_ n3_ n4_ n5_
     (try clear hb)
     (try clear hkp)
     (try clear ho0)
     refine hK.out _ _ ⟨(blk_cell BK205.out 0).trans rfl, (blk_cell BK205.out 1).trans rfl, (blk_cell BK199.out 0).trans rfl, (blk_cell BK199.out 1).trans rfl⟩ (fun hHeld => ?_)
     clear hK K
     refine norm_ (a' := ?_) ?_ ?_
     rotate_left
     ·show Act.put _ (some 39) _ = _
      simp only [Act.put, ps_]
      rfl
     refine pure_ (i := 4) (N := some 9) (v := ?_) (a' := ?_) #[tt,tt,tt,tt,tt] rfl rfl (by kernel_rfl) (fun _ _ _ h => h) (Or.inl ⟨by rfl, ?_⟩) ?_ ?_
     rotate_left
     ·intro w'
      go_simp
      with_reducible rfl
     rotate_left
     ·simp only [Act.put, ps_]
      rfl
     refine done_ (by kernel_rfl) ?_
     obtain ⟨Ao29, co29, eo29⟩ := Kd.R_slice HO211.out
     subst eo29
     try go_wp2_with (first | ((with_reducible refine gate_dst (N := 43) rfl ?_); refine Kd.R_lit Kd.string _ 9 ?hg (N := 43) ?hd (xs := ([(⟨#[]⟩ : ByteArray)] : List ByteArray)) (inner := [.string (⟨#[]⟩ : ByteArray)]) (ok := fun _ => True) (okp := fun _ => True) ?hr ?hp (fun _ hk => hk) trivial (Below.refl _ _) (Nat.le_refl _) (by simp) ?_; (case hd => rfl); (case hg => rfl); (case hr => first | (go_simp; done) | (go_simp; rfl)); (case hp => exact (Reps.one (show Kd.M Kd.string _ _ _ (⟨#[]⟩ : ByteArray) [.string (⟨#[]⟩ : ByteArray)] from rfl) (Reps.none _ _))); intro v213 w30 ho31 hb hg_ hnew_; clear hg_ hnew_; (first | rw [← Ny212.out] at ho31 | (simp only [Int.reduceToNat] at ho31; rw [← Ny212.out] at ho31)); replace HO_200001 := Aside0.mk (Kd.R_below (by (with_reducible repeat first | apply Kd.R_alloc | apply Kd.R_drewN | apply Kd.R_drew); exact HO_200001.out) hb); replace HO_206001 := Aside0.mk (Kd.R_below (by (with_reducible repeat first | apply Kd.R_alloc | apply Kd.R_drewN | apply Kd.R_drew); exact HO_206001.out) hb); have HO214 := Aside0.mk (Kd.R_lower (Kd.R_new' ho31 (Kd.R_lt (by (with_reducible repeat first | apply Kd.R_alloc | apply Kd.R_drewN | apply Kd.R_drew); exact HO211.out))) (below_size (by repeat first | (with_reducible first | exact HB.out | apply below_alloc | apply pw_below_drewN | apply below_drew1 | refine below_set ?_ GE199.out | refine below_set ?_ GE205.out) | exact HB.out))); replace HO211 := Aside0.mk (Kd.R_elder' (by (with_reducible repeat first | apply Kd.R_alloc | apply Kd.R_drewN | apply Kd.R_drew); exact HO211.out) (Kd.R_base ho31) hb); replace BK199 := Aside0.mk (blk_below (g := gb199) (o := .cells #[.string t194, .slice Ao9 t195.length co9] 55 (0, 0)) (by (with_reducible repeat first | apply blk_drewN | apply blk_drew | apply blk_alloc); exact BK199.out) hb); replace BK205 := Aside0.mk (blk_below (g := gb205) (o := .cells #[.string t200, .slice Ao14 t201.length co14] 55 (0, 0)) (by (with_reducible repeat first | apply blk_drewN | apply blk_drew | apply blk_alloc); exact BK205.out) hb); replace HB := Aside0.mk (below_step (by repeat first | (with_reducible first | exact HB.out | apply below_alloc | apply pw_below_drewN | apply below_drew1 | refine below_set ?_ GE199.out | refine below_set ?_ GE205.out) | exact HB.out) hb); clear hb ho31) | ((with_reducible refine gate_dst (N := 44) rfl ?_); refine Kd.R_lit Kd.string _ 9 ?hg (N := 44) ?hd (xs := ([] : List ByteArray)) (inner := []) (ok := fun _ => True) (okp := fun _ => True) ?hr ?hp (fun _ hk => hk) trivial (Below.refl _ _) (Nat.le_refl _) (by simp) ?_; (case hd => rfl); (case hg => rfl); (case hr => first | (go_simp; done) | (go_simp; rfl)); (case hp => exact (Reps.none _ _)); intro v216 w32 ho33 hb hg_ hnew_; clear hg_ hnew_; (first | rw [← Ny215.out] at ho33 | (simp only [Int.reduceToNat] at ho33; rw [← Ny215.out] at ho33)); replace HO_200001 := Aside0.mk (Kd.R_below (by (with_reducible repeat first | apply Kd.R_alloc | apply Kd.R_drewN | apply Kd.R_drew); exact HO_200001.out) hb); replace HO_206001 := Aside0.mk (Kd.R_below (by (with_reducible repeat first | apply Kd.R_alloc | apply Kd.R_drewN | apply Kd.R_drew); exact HO_206001.out) hb); have HO217 := Aside0.mk (Kd.R_lower (Kd.R_new' (Kd.R_new' ho33 (Kd.R_lt (by (with_reducible repeat first | apply Kd.R_alloc | apply Kd.R_drewN | apply Kd.R_drew); exact HO211.out))) (Kd.R_lt (by (with_reducible repeat first | apply Kd.R_alloc | apply Kd.R_drewN | apply Kd.R_drew); exact HO214.out))) (below_size (by repeat first | (with_reducible first | exact HB.out | apply below_alloc | apply pw_below_drewN | apply below_drew1 | refine below_set ?_ GE199.out | refine below_set ?_ GE205.out) | exact HB.out))); replace HO211 := Aside0.mk (Kd.R_elder' (by (with_reducible repeat first | apply Kd.R_alloc | apply Kd.R_drewN | apply Kd.R_drew); exact HO211.out) (Kd.R_base ho33) hb); replace HO214 := Aside0.mk (Kd.R_elder' (by (with_reducible repeat first | apply Kd.R_alloc | apply Kd.R_drewN | apply Kd.R_drew); exact HO214.out) (Kd.R_base ho33) hb); replace BK199 := Aside0.mk (blk_below (g := gb199) (o := .cells #[.string t194, .slice Ao9 t195.length co9] 55 (0, 0)) (by (with_reducible repeat first | apply blk_drewN | apply blk_drew | apply blk_alloc); exact BK199.out) hb); replace BK205 := Aside0.mk (blk_below (g := gb205) (o := .cells #[.string t200, .slice Ao14 t201.length co14] 55 (0, 0)) (by (with_reducible repeat first | apply blk_drewN | apply blk_drew | apply blk_alloc); exact BK205.out) hb); replace HB := Aside0.mk (below_step (by repeat first | (with_reducible first | exact HB.out | apply below_alloc | apply pw_below_drewN | apply below_drew1 | refine below_set ?_ GE199.out | refine below_set ?_ GE205.out) | exact HB.out) hb); clear hb ho33))
     go_loopg [10, 11, 47] kj4 (fun kq v10 v11 v47 w' => ∃ (x10_2 : List ByteArray) (x11_2 : List ByteArray) (x47_2 : Int), v47 = .int .i64 x47_2 ∧ Aside0 (impl_SameExpr.l0 kq x10_2 x11_2 t209 (t209.length : Int) x47_2 t194 t195 t200 t201 = some r) ∧ Aside0 (kq ≤ kj4) ∧ Aside0 (Kd.R Kd.string 9 w' w.heap.size (fun k_ => some k_ ≠ (v11 : Value).ownBlock ∧ some k_ ≠ ((.slice Ao29 t209.length co29) : Value).ownBlock) v10 x10_2) ∧ Aside0 (Kd.R Kd.string 9 w' w.heap.size (fun k_ => some k_ ≠ (v10 : Value).ownBlock ∧ some k_ ≠ ((.slice Ao29 t209.length co29) : Value).ownBlock) v11 x11_2) ∧ Aside0 (Kd.R Kd.string 9 w' w.heap.size (fun k_ => some k_ ≠ (v10 : Value).ownBlock ∧ some k_ ≠ (v11 : Value).ownBlock) (.slice Ao29 t209.length co29) t209) ∧ Aside0 (Kd.R k55 55 w' w.heap.size (fun k_ => some k_ ≠ ((.slice Ao14 t201.length co14) : Value).ownBlock ∧ k_ ≠ gb199 ∧ k_ ≠ gb205) (.slice Ao9 t195.length co9) t195) ∧ Aside0 (Kd.R k55 55 w' w.heap.size (fun k_ => some k_ ≠ ((.slice Ao9 t195.length co9) : Value).ownBlock ∧ k_ ≠ gb199 ∧ k_ ≠ gb205) (.slice Ao14 t201.length co14) t201) ∧ Aside0 (w'.heap[gb199]? = some (.cells #[.string t194, (.slice Ao9 t195.length co9)] 55 (0, 0))) ∧ Aside0 (w'.heap[gb205]? = some (.cells #[.string t200, (.slice Ao14 t201.length co14)] 55 (0, 0))) ∧ Aside0 (Below w.heap.size w w'))
     case atStart => exact ⟨(y212), (y215), (0), (by first | rfl | (simp; done) | (simp [*]; done)), H', ⟨Nat.le_refl _⟩, ⟨by (with_reducible repeat first | apply Kd.R_alloc | apply Kd.R_drewN | apply Kd.R_drew); exact Kd.R_mono HO214.out (fun _ hk => ⟨hk.2, hk.1.2⟩)⟩, ⟨by (with_reducible repeat first | apply Kd.R_alloc | apply Kd.R_drewN | apply Kd.R_drew); exact Kd.R_mono HO217.out (fun _ hk => ⟨hk.2, hk.1.2⟩)⟩, ⟨by (with_reducible repeat first | apply Kd.R_alloc | apply Kd.R_drewN | apply Kd.R_drew); exact Kd.R_mono HO211.out (fun _ hk => ⟨hk.1.2, hk.2⟩)⟩, ⟨by (with_reducible repeat first | apply Kd.R_alloc | apply Kd.R_drewN | apply Kd.R_drew); exact HO_200001.out⟩, ⟨by (with_reducible repeat first | apply Kd.R_alloc | apply Kd.R_drewN | apply Kd.R_drew); exact HO_206001.out⟩, ⟨by (with_reducible repeat first | apply blk_drewN | apply blk_drew | apply blk_alloc); exact BK199.out⟩, ⟨by (with_reducible repeat first | apply blk_drewN | apply blk_drew | apply blk_alloc); exact BK205.out⟩, ⟨by repeat (first | (with_reducible first | exact HB.out | apply below_alloc | apply pw_below_drewN | apply below_drew1 | refine below_set ?_ GE199.out | refine below_set ?_ GE205.out) | exact HB.out)⟩⟩
     case round =>
      clear H'; try clear c1; try clear p2; try clear c4; try clear c12; try clear c15; try clear c16; try clear c19; try clear c19b0; try clear c19b1; try clear hcz13_0; try clear hcz13_1; try clear hcz8_0; try clear hcz8_1; try clear hfz13_0; try clear hfz13_1; try clear hfz8_0; try clear hfz8_1; try clear p2
      obtain ⟨x10_2, x11_2, x47_2, rfl, HA, HK2, HO_10, HO_11, HO_45, HO_200001, HO_206001, BK199, BK205, HB⟩ := hrel
      cases gk with
      | zero => exact absurd HA.out (by simp [impl_SameExpr.l0])
      | succ k2 =>
       have H := HA.out; clear HA
       simp only [impl_SameExpr.l0] at H
       by_cases c34 : x47_2 < (t209.length : Int)
       ·rw [if_pos c34] at H
        have c34b0 : decide (x47_2 < (t209.length : Int)) = true := decide_eq_true c34
        clear c34
        by_cases c35 : 0 ≤ x47_2
        ·rw [if_pos c35] at H
         have c35b0 : decide (0 ≤ x47_2) = true := decide_eq_true c35
         clear c35
         by_cases c36 : x47_2 < (t209.length : Int)
         ·rw [if_pos c36] at H
          have c36b0 : decide (x47_2 < (t209.length : Int)) = true := decide_eq_true c36
          clear c36
          by_cases c37 : 0 < ((rdOf ByteArray.empty t209 x47_2).size : Int)
          ·rw [if_pos c37] at H
           have c37b0 : decide (0 < ((rdOf ByteArray.empty t209 x47_2).size : Int)) = true := decide_eq_true c37
           have c37b1 : decide (0 < (rdOf ByteArray.empty t209 x47_2).size) = true := decide_eq_true (by omega)
           clear c37
           by_cases c39 : (bt (rdOf ByteArray.empty t209 x47_2) 0) = 64
           ·rw [if_pos c39] at H
            have c39b0 : ((bt (rdOf ByteArray.empty t209 x47_2) 0) == 64) = true := beq_iff_eq.mpr c39
            have c39b1 : ((bt (rdOf ByteArray.empty t209 x47_2) 0) != 64) = false := bne_eq_false_iff_eq.mpr c39
            clear c39
            by_cases c40 : 1 ≤ ((rdOf ByteArray.empty t209 x47_2).size : Int)
            ·rw [if_pos c40] at H
             have c40b0 := eq_true c40
             have c40b1 : decide (1 ≤ ((rdOf ByteArray.empty t209 x47_2).size : Int)) = true := decide_eq_true c40
             clear c40
             by_cases c41 : x10_2.length < 8796093022208
             ·rw [if_pos c41] at H
              have LMc41 := Aside0.mk c41; clear c41
              obtain ⟨y219, hy219⟩ : ∃ y_ : List ByteArray, y_ = (x10_2 ++ [(rdOf ByteArray.empty t209 x47_2).extract 1 (rdOf ByteArray.empty t209 x47_2).size]) := ⟨_, rfl⟩
              replace H : (impl_SameExpr.l0 k2 y219 x11_2 t209 (t209.length : Int) (wrap64 (x47_2 + 1)) t194 t195 t200 t201) = some r := by first | (rw [hy219]; with_reducible exact H) | (have H2_ := (Option.bind_some _ _).symm.trans H; rw [hy219]; with_reducible exact H2_) | (have H2_ := (Option.bind_some _ _).symm.trans H; with_reducible exact H2_) | with_reducible exact H | (rw [hy219]; exact H) | exact H
              have Ny219 := Aside0.mk hy219; clear hy219; have H' := Aside0.mk H; clear H
              have p218 : 0 ≤ (x47_2 : Int) := of_decide_eq_true (by first | (with_reducible assumption) | assumption)
              have q218 : x47_2 < (t209.length : Int) := of_decide_eq_true (by first | (with_reducible assumption) | assumption)
              obtain ⟨ad218, e218, hx218_0⟩ := Kd.at_string (Kd.R_reads' HO_45.out).2.2 x47_2 p218 q218
              cases e218
              replace p218 := eq_true p218
              replace q218 := eq_true q218
              have p38 : 0 ≤ (0 : Int) := (by omega)
              have q38 : 0 < (rdOf ByteArray.empty t209 x47_2).size := (by have : (0 : Int) < ((rdOf ByteArray.empty t209 x47_2).size : Int) := of_decide_eq_true (by first | (with_reducible assumption) | assumption); omega)
              have hx38 : ∀ h : 0 < (rdOf ByteArray.empty t209 x47_2).size, (((rdOf ByteArray.empty t209 x47_2)[0]'h).toNat : Int) = bt (rdOf ByteArray.empty t209 x47_2) 0 := bt_at (rdOf ByteArray.empty t209 x47_2) 0
              clear p38
              have qi38 : (0 < ((rdOf ByteArray.empty t209 x47_2).size : Int)) = True := eq_true (of_decide_eq_true (by first | (with_reducible assumption) | assumption))
              replace q38 := eq_true q38
              go_wp2_with (first | ((with_reducible refine gate_builtin (b := .append) (xs := #[.tmp 54, .tmp 57]) rfl ?_); at_builtin; refine Kd.R_append Kd.string (w0 := w) w.heap.size rfl (.tmp 54) (.tmp 57) 23 9 (.string ⟨#[]⟩) 16 rfl Try.underlying23 info9 rfl (by decide) (by omega) u10 x10_2 ((rdOf ByteArray.empty t209 x47_2).extract 1 (rdOf ByteArray.empty t209 x47_2).size) [.string ((rdOf ByteArray.empty t209 x47_2).extract 1 (rdOf ByteArray.empty t209 x47_2).size)] (fun k_ => some k_ ≠ (u11 : Value).ownBlock ∧ some k_ ≠ (.slice (some ad218) t209.length co29 : Value).ownBlock) (fun _ => False) rfl rfl ?aP (fun _ hk => hk.elim) ?aF ?aO ?aB ?aS ?aL ?_; (case aP => exact rfl); (case aB => exact (by repeat first | (with_reducible first | exact HB.out | apply below_alloc | apply pw_below_drewN | apply below_drew1 | refine below_set ?_ GE199.out | refine below_set ?_ GE205.out) | exact HB.out)); (case aF => exact (fun k_ hk => ⟨Kd.fresh' (Kd.R_lt (by (with_reducible repeat first | apply Kd.R_alloc | apply Kd.R_drewN | apply Kd.R_drew); exact HO_11.out)) k_ hk, Kd.fresh' (Kd.R_lt (by (with_reducible repeat first | apply Kd.R_alloc | apply Kd.R_drewN | apply Kd.R_drew); exact HO_45.out)) k_ hk⟩)); (case aO => exact (by (with_reducible repeat first | apply Kd.R_alloc | apply Kd.R_drewN | apply Kd.R_drew); exact HO_10.out)); (case aS => exact (below_size (by repeat first | (with_reducible first | exact HB.out | apply below_alloc | apply pw_below_drewN | apply below_drew1 | refine below_set ?_ GE199.out | refine below_set ?_ GE205.out) | exact HB.out))); (case aL => have := LMc41.out; omega); intro v220 w42 ho hb hg hat; rw [← Ny219.out] at ho; replace HO_11 := Aside0.mk (Kd.R_after (ok := (fun k_ => some k_ ≠ (.slice (some ad218) t209.length co29 : Value).ownBlock)) (by (with_reducible repeat first | apply Kd.R_alloc | apply Kd.R_drewN | apply Kd.R_drew); exact Kd.R_mono HO_11.out (fun _ hk => ⟨hk.2, hk.1⟩)) hg hat); replace HO_45 := Aside0.mk (Kd.R_after (ok := (fun k_ => some k_ ≠ (u11 : Value).ownBlock)) (by (with_reducible repeat first | apply Kd.R_alloc | apply Kd.R_drewN | apply Kd.R_drew); exact Kd.R_mono HO_45.out (fun _ hk => ⟨hk.2, hk.1⟩)) hg hat); replace HO_200001 := Aside0.mk (Kd.R_over' (by (with_reducible repeat first | apply Kd.R_alloc | apply Kd.R_drewN | apply Kd.R_drew); exact HO_200001.out) (Kd.R_typed (by (with_reducible repeat first | apply Kd.R_alloc | apply Kd.R_drewN | apply Kd.R_drew); exact HO_10.out)) (by decide) hg); replace HO_206001 := Aside0.mk (Kd.R_over' (by (with_reducible repeat first | apply Kd.R_alloc | apply Kd.R_drewN | apply Kd.R_drew); exact HO_206001.out) (Kd.R_typed (by (with_reducible repeat first | apply Kd.R_alloc | apply Kd.R_drewN | apply Kd.R_drew); exact HO_10.out)) (by decide) hg); replace BK199 := Aside0.mk (blk_grown (g := gb199) (o := .cells #[.string t194, .slice Ao9 t195.length co9] 55 (0, 0)) (by (with_reducible repeat first | apply blk_drewN | apply blk_drew | apply blk_alloc); exact BK199.out) hg (Kd.R_ne HO_10.out BK199.out (by decide))); replace BK205 := Aside0.mk (blk_grown (g := gb205) (o := .cells #[.string t200, .slice Ao14 t201.length co14] 55 (0, 0)) (by (with_reducible repeat first | apply blk_drewN | apply blk_drew | apply blk_alloc); exact BK205.out) hg (Kd.R_ne HO_10.out BK205.out (by decide))); replace HB := Aside0.mk (hb); have HO221 := Aside0.mk (ho); clear HO_10; clear ho hb hg hat))
              go_roundg k2
              case measure => have := HJ4.out; have := HK2.out; omega
              case rel => exact ⟨(y219), (x11_2), (wrap64 (x47_2 + 1)), (by first | rfl | (simp; done) | (simp [*]; done)), H', ⟨by have := HJ4.out; have := HK2.out; omega⟩, ⟨by (with_reducible repeat first | apply Kd.R_alloc | apply Kd.R_drewN | apply Kd.R_drew); exact HO221.out⟩, ⟨by (with_reducible repeat first | apply Kd.R_alloc | apply Kd.R_drewN | apply Kd.R_drew); exact Kd.R_mono HO_11.out (fun _ hk => ⟨hk.2, hk.1⟩)⟩, ⟨by (with_reducible repeat first | apply Kd.R_alloc | apply Kd.R_drewN | apply Kd.R_drew); exact Kd.R_mono HO_45.out (fun _ hk => ⟨hk.2, hk.1⟩)⟩, ⟨by (with_reducible repeat first | apply Kd.R_alloc | apply Kd.R_drewN | apply Kd.R_drew); exact HO_200001.out⟩, ⟨by (with_reducible repeat first | apply Kd.R_alloc | apply Kd.R_drewN | apply Kd.R_drew); exact HO_206001.out⟩, ⟨by (with_reducible repeat first | apply blk_drewN | apply blk_drew | apply blk_alloc); exact BK199.out⟩, ⟨by (with_reducible repeat first | apply blk_drewN | apply blk_drew | apply blk_alloc); exact BK205.out⟩, ⟨by repeat (first | (with_reducible first | exact HB.out | apply below_alloc | apply pw_below_drewN | apply below_drew1 | refine below_set ?_ GE199.out | refine below_set ?_ GE205.out) | exact HB.out)⟩⟩
             ·rw [if_neg c41] at H
              exact absurd H (by simp)
            ·rw [if_neg c40] at H
             exact absurd H (by simp)
           ·rw [if_neg c39] at H
            have c39b0 : ((bt (rdOf ByteArray.empty t209 x47_2) 0) == 64) = false := beq_eq_false_iff_ne.mpr c39
            have c39b1 : ((bt (rdOf ByteArray.empty t209 x47_2) 0) != 64) = true := bne_iff_ne.mpr c39
            by_cases c43 : x11_2.length < 8796093022208
            ·rw [if_pos c43] at H
             have LMc43 := Aside0.mk c43; clear c43
             obtain ⟨y222, hy222⟩ : ∃ y_ : List ByteArray, y_ = (x11_2 ++ [rdOf ByteArray.empty t209 x47_2]) := ⟨_, rfl⟩
             replace H : (impl_SameExpr.l0 k2 x10_2 y222 t209 (t209.length : Int) (wrap64 (x47_2 + 1)) t194 t195 t200 t201) = some r := by first | (rw [hy222]; with_reducible exact H) | (have H2_ := (Option.bind_some _ _).symm.trans H; rw [hy222]; with_reducible exact H2_) | (have H2_ := (Option.bind_some _ _).symm.trans H; with_reducible exact H2_) | with_reducible exact H | (rw [hy222]; exact H) | exact H
             have Ny222 := Aside0.mk hy222; clear hy222; have H' := Aside0.mk H; clear H
             have p218 : 0 ≤ (x47_2 : Int) := of_decide_eq_true (by first | (with_reducible assumption) | assumption)
             have q218 : x47_2 < (t209.length : Int) := of_decide_eq_true (by first | (with_reducible assumption) | assumption)
             obtain ⟨ad218, e218, hx218_0⟩ := Kd.at_string (Kd.R_reads' HO_45.out).2.2 x47_2 p218 q218
             cases e218
             replace p218 := eq_true p218
             replace q218 := eq_true q218
             have p38 : 0 ≤ (0 : Int) := (by omega)
             have q38 : 0 < (rdOf ByteArray.empty t209 x47_2).size := (by have : (0 : Int) < ((rdOf ByteArray.empty t209 x47_2).size : Int) := of_decide_eq_true (by first | (with_reducible assumption) | assumption); omega)
             have hx38 : ∀ h : 0 < (rdOf ByteArray.empty t209 x47_2).size, (((rdOf ByteArray.empty t209 x47_2)[0]'h).toNat : Int) = bt (rdOf ByteArray.empty t209 x47_2) 0 := bt_at (rdOf ByteArray.empty t209 x47_2) 0
             clear p38
             have qi38 : (0 < ((rdOf ByteArray.empty t209 x47_2).size : Int)) = True := eq_true (of_decide_eq_true (by first | (with_reducible assumption) | assumption))
             replace q38 := eq_true q38
             go_wp2_with (first | ((with_reducible refine gate_builtin (b := .append) (xs := #[.tmp 59, .tmp 61]) rfl ?_); at_builtin; refine Kd.R_append Kd.string (w0 := w) w.heap.size rfl (.tmp 59) (.tmp 61) 23 9 (.string ⟨#[]⟩) 16 rfl Try.underlying23 info9 rfl (by decide) (by omega) u11 x11_2 (rdOf ByteArray.empty t209 x47_2) [.string (rdOf ByteArray.empty t209 x47_2)] (fun k_ => some k_ ≠ (u10 : Value).ownBlock ∧ some k_ ≠ (.slice (some ad218) t209.length co29 : Value).ownBlock) (fun _ => False) rfl rfl ?aP (fun _ hk => hk.elim) ?aF ?aO ?aB ?aS ?aL ?_; (case aP => exact rfl); (case aB => exact (by repeat first | (with_reducible first | exact HB.out | apply below_alloc | apply pw_below_drewN | apply below_drew1 | refine below_set ?_ GE199.out | refine below_set ?_ GE205.out) | exact HB.out)); (case aF => exact (fun k_ hk => ⟨Kd.fresh' (Kd.R_lt (by (with_reducible repeat first | apply Kd.R_alloc | apply Kd.R_drewN | apply Kd.R_drew); exact HO_10.out)) k_ hk, Kd.fresh' (Kd.R_lt (by (with_reducible repeat first | apply Kd.R_alloc | apply Kd.R_drewN | apply Kd.R_drew); exact HO_45.out)) k_ hk⟩)); (case aO => exact (by (with_reducible repeat first | apply Kd.R_alloc | apply Kd.R_drewN | apply Kd.R_drew); exact HO_11.out)); (case aS => exact (below_size (by repeat first | (with_reducible first | exact HB.out | apply below_alloc | apply pw_below_drewN | apply below_drew1 | refine below_set ?_ GE199.out | refine below_set ?_ GE205.out) | exact HB.out))); (case aL => have := LMc43.out; omega); intro v223 w44 ho hb hg hat; rw [← Ny222.out] at ho; replace HO_10 := Aside0.mk (Kd.R_after (ok := (fun k_ => some k_ ≠ (.slice (some ad218) t209.length co29 : Value).ownBlock)) (by (with_reducible repeat first | apply Kd.R_alloc | apply Kd.R_drewN | apply Kd.R_drew); exact Kd.R_mono HO_10.out (fun _ hk => ⟨hk.2, hk.1⟩)) hg hat); replace HO_45 := Aside0.mk (Kd.R_after (ok := (fun k_ => some k_ ≠ (u10 : Value).ownBlock)) (by (with_reducible repeat first | apply Kd.R_alloc | apply Kd.R_drewN | apply Kd.R_drew); exact HO_45.out) hg hat); replace HO_200001 := Aside0.mk (Kd.R_over' (by (with_reducible repeat first | apply Kd.R_alloc | apply Kd.R_drewN | apply Kd.R_drew); exact HO_200001.out) (Kd.R_typed (by (with_reducible repeat first | apply Kd.R_alloc | apply Kd.R_drewN | apply Kd.R_drew); exact HO_11.out)) (by decide) hg); replace HO_206001 := Aside0.mk (Kd.R_over' (by (with_reducible repeat first | apply Kd.R_alloc | apply Kd.R_drewN | apply Kd.R_drew); exact HO_206001.out) (Kd.R_typed (by (with_reducible repeat first | apply Kd.R_alloc | apply Kd.R_drewN | apply Kd.R_drew); exact HO_11.out)) (by decide) hg); replace BK199 := Aside0.mk (blk_grown (g := gb199) (o := .cells #[.string t194, .slice Ao9 t195.length co9] 55 (0, 0)) (by (with_reducible repeat first | apply blk_drewN | apply blk_drew | apply blk_alloc); exact BK199.out) hg (Kd.R_ne HO_11.out BK199.out (by decide))); replace BK205 := Aside0.mk (blk_grown (g := gb205) (o := .cells #[.string t200, .slice Ao14 t201.length co14] 55 (0, 0)) (by (with_reducible repeat first | apply blk_drewN | apply blk_drew | apply blk_alloc); exact BK205.out) hg (Kd.R_ne HO_11.out BK205.out (by decide))); replace HB := Aside0.mk (hb); have HO224 := Aside0.mk (ho); clear HO_11; clear ho hb hg hat))
             go_roundg k2
             case measure => have := HJ4.out; have := HK2.out; omega
             case rel => exact ⟨(x10_2), (y222), (wrap64 (x47_2 + 1)), (by first | rfl | (simp; done) | (simp [*]; done)), H', ⟨by have := HJ4.out; have := HK2.out; omega⟩, ⟨by (with_reducible repeat first | apply Kd.R_alloc | apply Kd.R_drewN | apply Kd.R_drew); exact Kd.R_mono HO_10.out (fun _ hk => ⟨hk.2, hk.1⟩)⟩, ⟨by (with_reducible repeat first | apply Kd.R_alloc | apply Kd.R_drewN | apply Kd.R_drew); exact HO224.out⟩, ⟨by (with_reducible repeat first | apply Kd.R_alloc | apply Kd.R_drewN | apply Kd.R_drew); exact HO_45.out⟩, ⟨by (with_reducible repeat first | apply Kd.R_alloc | apply Kd.R_drewN | apply Kd.R_drew); exact HO_200001.out⟩, ⟨by (with_reducible repeat first | apply Kd.R_alloc | apply Kd.R_drewN | apply Kd.R_drew); exact HO_206001.out⟩, ⟨by (with_reducible repeat first | apply blk_drewN | apply blk_drew | apply blk_alloc); exact BK199.out⟩, ⟨by (with_reducible repeat first | apply blk_drewN | apply blk_drew | apply blk_alloc); exact BK205.out⟩, ⟨by repeat (first | (with_reducible first | exact HB.out | apply below_alloc | apply pw_below_drewN | apply below_drew1 | refine below_set ?_ GE199.out | refine below_set ?_ GE205.out) | exact HB.out)⟩⟩
            ·rw [if_neg c43] at H
             exact absurd H (by simp)
          ·rw [if_neg c37] at H
           exact absurd H (by simp)
         ·rw [if_neg c36] at H
          exact absurd H (by simp)
        ·rw [if_neg c35] at H
         exact absurd H (by simp)
       ·rw [if_neg c34] at H
        have c34b0 : decide (x47_2 < (t209.length : Int)) = false := decide_eq_false c34
        clear c34; have H' := Aside0.mk H; clear H
        obtain ⟨Ao45, co45, eo45⟩ := Kd.R_slice HO_10.out
        subst eo45
        go_wp2
        go_loopg [66] k2 (fun kq v66 w' => ∃ (x66_3 : Int), v66 = .int .i64 x66_3 ∧ Aside0 (impl_SameExpr.l1 kq x11_2 x10_2 (x10_2.length : Int) x66_3 t194 t195 t200 t201 = some r) ∧ Aside0 (kq ≤ k2) ∧ Aside0 (Kd.R Kd.string 9 w' w.heap.size (fun k_ => some k_ ≠ ((.slice Ao45 x10_2.length co45) : Value).ownBlock) u11 x11_2) ∧ Aside0 (Kd.R Kd.string 9 w' w.heap.size (fun k_ => some k_ ≠ (u11 : Value).ownBlock) (.slice Ao45 x10_2.length co45) x10_2) ∧ Aside0 (Kd.R k55 55 w' w.heap.size (fun k_ => some k_ ≠ ((.slice Ao14 t201.length co14) : Value).ownBlock ∧ k_ ≠ gb199 ∧ k_ ≠ gb205) (.slice Ao9 t195.length co9) t195) ∧ Aside0 (Kd.R k55 55 w' w.heap.size (fun k_ => some k_ ≠ ((.slice Ao9 t195.length co9) : Value).ownBlock ∧ k_ ≠ gb199 ∧ k_ ≠ gb205) (.slice Ao14 t201.length co14) t201) ∧ Aside0 (w'.heap[gb199]? = some (.cells #[.string t194, (.slice Ao9 t195.length co9)] 55 (0, 0))) ∧ Aside0 (w'.heap[gb205]? = some (.cells #[.string t200, (.slice Ao14 t201.length co14)] 55 (0, 0))) ∧ Aside0 (Below w.heap.size w w'))
        case atStart => exact ⟨(0), (by first | rfl | (simp; done) | (simp [*]; done)), H', ⟨Nat.le_refl _⟩, ⟨by (with_reducible repeat first | apply Kd.R_alloc | apply Kd.R_drewN | apply Kd.R_drew); exact Kd.R_mono HO_11.out (fun _ hk => hk.1)⟩, ⟨by (with_reducible repeat first | apply Kd.R_alloc | apply Kd.R_drewN | apply Kd.R_drew); exact Kd.R_mono HO_10.out (fun _ hk => hk.1)⟩, ⟨by (with_reducible repeat first | apply Kd.R_alloc | apply Kd.R_drewN | apply Kd.R_drew); exact HO_200001.out⟩, ⟨by (with_reducible repeat first | apply Kd.R_alloc | apply Kd.R_drewN | apply Kd.R_drew); exact HO_206001.out⟩, ⟨by (with_reducible repeat first | apply blk_drewN | apply blk_drew | apply blk_alloc); exact BK199.out⟩, ⟨by (with_reducible repeat first | apply blk_drewN | apply blk_drew | apply blk_alloc); exact BK205.out⟩, ⟨by repeat (first | (with_reducible first | exact HB.out | apply below_alloc | apply pw_below_drewN | apply below_drew1 | refine below_set ?_ GE199.out | refine below_set ?_ GE205.out) | exact HB.out)⟩⟩
        case round =>
         clear H'; try clear c1; try clear p2; try clear q2; try clear hx2; try clear c3; try clear p3; try clear q3; try clear hx3; try clear qi3; try clear c4; try clear p6; try clear c12; try clear c15; try clear c16; try clear c19; try clear c19b0; try clear c19b1; try clear p21; try clear q21; try clear hx21; try clear c34; try clear c34b0; try clear c35; try clear c35b0; try clear c36; try clear c36b0; try clear c37; try clear c37b0; try clear c37b1; try clear p38; try clear q38; try clear hx38; try clear qi38; try clear c39; try clear c39b0; try clear c39b1; try clear c40; try clear c40b0; try clear c40b1; try clear c41; try clear c43; try clear hcz13_0; try clear hcz13_1; try clear hcz8_0; try clear hcz8_1; try clear hfz13_0; try clear hfz13_1; try clear hfz8_0; try clear hfz8_1; try clear hx218_0; try clear p2; try clear p218; try clear p38; try clear q218; try clear q38
         obtain ⟨x66_3, rfl, HA, HK3, HO_11, HO_64, HO_200001, HO_206001, BK199, BK205, HB⟩ := hrel
         cases gk with
         | zero => exact absurd HA.out (by simp [impl_SameExpr.l1])
         | succ k3 =>
          have H := HA.out; clear HA
          simp only [impl_SameExpr.l1] at H
          by_cases c46 : x66_3 < (x10_2.length : Int)
          ·rw [if_pos c46] at H
           have c46b0 : decide (x66_3 < (x10_2.length : Int)) = true := decide_eq_true c46
           clear c46
           by_cases c47 : 0 ≤ x66_3
           ·rw [if_pos c47] at H
            have c47b0 : decide (0 ≤ x66_3) = true := decide_eq_true c47
            clear c47
            by_cases c48 : x66_3 < (x10_2.length : Int)
            ·rw [if_pos c48] at H
             have c48b0 : decide (x66_3 < (x10_2.length : Int)) = true := decide_eq_true c48
             clear c48
             obtain ⟨ji49, hji49⟩ : ∃ j_ : Int, (shl .i64 1 (x11_2.length : Int)) = j_ := ⟨_, rfl⟩
             replace H : (impl_SameExpr.l2 k3 x11_2 (rdOf ByteArray.empty x10_2 x66_3) x10_2 (x10_2.length : Int) x66_3 ji49 0 t194 t195 t200 t201) = some r := by first | (rw [hji49] at H; exact H) | (simp only [hji49] at H ⊢; exact H)
             have hji49_ : (IntKind.i64.wrap (1 * 2 ^ min (x11_2.length : Int).toNat 64)) = ji49 := hji49
             have hji49z : (x11_2.length : Int) ≤ 64 → (IntKind.i64.wrap (1 * 2 ^ (x11_2.length : Int).toNat)) = ji49 := shl_small hji49
             have hji49p : (IntKind.i64.wrap (1 * 2 ^ min x11_2.length 64)) = ji49 := hji49_
             have hji49q : (x11_2.length : Int) ≤ 64 → (IntKind.i64.wrap (1 * 2 ^ x11_2.length)) = ji49 := hji49z
             have hji49r : (IntKind.i64.wrap (2 ^ min x11_2.length 64)) = ji49 := by have h_ := hji49p; rw [Int.one_mul] at h_; exact h_
             have hji49s : (x11_2.length : Int) ≤ 64 → (IntKind.i64.wrap (2 ^ x11_2.length)) = ji49 := fun hle_ => by have h_ := hji49q hle_; rw [Int.one_mul] at h_; exact h_
             have hji49u : (IntKind.i64.wrap (2 ^ min (x11_2.length : Int).toNat 64)) = ji49 := by have h_ := hji49_; rw [Int.one_mul] at h_; exact h_
             have hji49v : (x11_2.length : Int) ≤ 64 → (IntKind.i64.wrap (2 ^ (x11_2.length : Int).toNat)) = ji49 := fun hle_ => by have h_ := hji49z hle_; rw [Int.one_mul] at h_; exact h_
             have hji49y : (wrap64 (1 * 2 ^ min (x11_2.length : Int).toNat 64)) = ji49 := (i64_w _).symm.trans hji49_
             have hji49x : (x11_2.length : Int) ≤ 64 → (wrap64 (1 * 2 ^ (x11_2.length : Int).toNat)) = ji49 := fun h_ => (i64_w _).symm.trans (hji49z h_)
             have H' := Aside0.mk H; clear H
             have p225 : 0 ≤ (x66_3 : Int) := of_decide_eq_true (by first | (with_reducible assumption) | assumption)
             have q225 : x66_3 < (x10_2.length : Int) := of_decide_eq_true (by first | (with_reducible assumption) | assumption)
             obtain ⟨ad225, e225, hx225_0⟩ := Kd.at_string (Kd.R_reads' HO_64.out).2.2 x66_3 p225 q225
             cases e225
             replace p225 := eq_true p225
             replace q225 := eq_true q225
             obtain ⟨Ao50, co50, eo50⟩ := Kd.R_slice HO_11.out
             subst eo50
             go_wp2
             go_loopg [73] k3 (fun kq v73 w' => ∃ (x73_4 : Int), v73 = .int .i64 x73_4 ∧ Aside0 (impl_SameExpr.l2 kq x11_2 (rdOf ByteArray.empty x10_2 x66_3) x10_2 (x10_2.length : Int) x66_3 ji49 x73_4 t194 t195 t200 t201 = some r) ∧ Aside0 (kq ≤ k3) ∧ Aside0 (Kd.R Kd.string 9 w' w.heap.size (fun k_ => some k_ ≠ ((.slice (some ad225) x10_2.length co45) : Value).ownBlock) (.slice Ao50 x11_2.length co50) x11_2) ∧ Aside0 (Kd.R Kd.string 9 w' w.heap.size (fun k_ => some k_ ≠ ((.slice Ao50 x11_2.length co50) : Value).ownBlock) (.slice (some ad225) x10_2.length co45) x10_2) ∧ Aside0 (Kd.R k55 55 w' w.heap.size (fun k_ => some k_ ≠ ((.slice Ao14 t201.length co14) : Value).ownBlock ∧ k_ ≠ gb199 ∧ k_ ≠ gb205) (.slice Ao9 t195.length co9) t195) ∧ Aside0 (Kd.R k55 55 w' w.heap.size (fun k_ => some k_ ≠ ((.slice Ao9 t195.length co9) : Value).ownBlock ∧ k_ ≠ gb199 ∧ k_ ≠ gb205) (.slice Ao14 t201.length co14) t201) ∧ Aside0 (w'.heap[gb199]? = some (.cells #[.string t194, (.slice Ao9 t195.length co9)] 55 (0, 0))) ∧ Aside0 (w'.heap[gb205]? = some (.cells #[.string t200, (.slice Ao14 t201.length co14)] 55 (0, 0))) ∧ Aside0 (Below w.heap.size w w'))
             case atStart => exact ⟨(0), (by first | rfl | (simp; done) | (simp [*]; done)), H', ⟨Nat.le_refl _⟩, ⟨by (with_reducible repeat first | apply Kd.R_alloc | apply Kd.R_drewN | apply Kd.R_drew); exact HO_11.out⟩, ⟨by (with_reducible repeat first | apply Kd.R_alloc | apply Kd.R_drewN | apply Kd.R_drew); exact HO_64.out⟩, ⟨by (with_reducible repeat first | apply Kd.R_alloc | apply Kd.R_drewN | apply Kd.R_drew); exact HO_200001.out⟩, ⟨by (with_reducible repeat first | apply Kd.R_alloc | apply Kd.R_drewN | apply Kd.R_drew); exact HO_206001.out⟩, ⟨by (with_reducible repeat first | apply blk_drewN | apply blk_drew | apply blk_alloc); exact BK199.out⟩, ⟨by (with_reducible repeat first | apply blk_drewN | apply blk_drew | apply blk_alloc); exact BK205.out⟩, ⟨by repeat (first | (with_reducible first | exact HB.out | apply below_alloc | apply pw_below_drewN | apply below_drew1 | refine below_set ?_ GE199.out | refine below_set ?_ GE205.out) | exact HB.out)⟩⟩
             case round =>
              clear H'; try clear c1; try clear p2; try clear q2; try clear hx2; try clear c3; try clear p3; try clear q3; try clear hx3; try clear qi3; try clear c4; try clear p6; try clear c12; try clear c15; try clear c16; try clear c19; try clear c19b0; try clear c19b1; try clear p21; try clear q21; try clear hx21; try clear p22; try clear q22; try clear hx22; try clear c34; try clear c34b0; try clear c35; try clear c35b0; try clear c36; try clear c36b0; try clear c37; try clear c37b0; try clear c37b1; try clear p38; try clear q38; try clear hx38; try clear qi38; try clear c39; try clear c39b0; try clear c39b1; try clear c40; try clear c40b0; try clear c40b1; try clear c41; try clear c43; try clear c46; try clear c46b0; try clear c47; try clear c47b0; try clear c48; try clear c48b0; try clear hcz13_0; try clear hcz13_1; try clear hcz8_0; try clear hcz8_1; try clear hfz13_0; try clear hfz13_1; try clear hfz8_0; try clear hfz8_1; try clear hx218_0; try clear hx225_0; try clear p2; try clear p21; try clear p218; try clear p225; try clear p3; try clear p38; try clear p6; try clear q2; try clear q21; try clear q218; try clear q225; try clear q3; try clear q38
              obtain ⟨x73_4, rfl, HA, HK4, HO_11, HO_64, HO_200001, HO_206001, BK199, BK205, HB⟩ := hrel
              cases gk with
              | zero => exact absurd HA.out (by simp [impl_SameExpr.l2])
              | succ k4 =>
               have H := HA.out; clear HA
               simp only [impl_SameExpr.l2] at H
               by_cases c51 : x73_4 < ji49
               ·rw [if_pos c51] at H
                have c51b0 : decide (x73_4 < ji49) = true := decide_eq_true c51
                clear c51
                obtain ⟨y226, hy226⟩ : ∃ y_ : List ByteArray, y_ = (([] : List ByteArray)) := ⟨_, rfl⟩
                replace H : (impl_SameExpr.l3 k4 x11_2 (rdOf ByteArray.empty x10_2 x66_3) x73_4 y226 x10_2 (x10_2.length : Int) x66_3 ji49 x73_4 x11_2 (x11_2.length : Int) 0 t194 t195 t200 t201) = some r := by first | (rw [hy226]; with_reducible exact H) | (have H2_ := (Option.bind_some _ _).symm.trans H; rw [hy226]; with_reducible exact H2_) | (have H2_ := (Option.bind_some _ _).symm.trans H; with_reducible exact H2_) | with_reducible exact H | (rw [hy226]; exact H) | exact H
                have Ny226 := Aside0.mk hy226; clear hy226; have H' := Aside0.mk H; clear H
                go_wp2_with (first | ((with_reducible refine gate_dst (N := 76) rfl ?_); refine Kd.R_lit Kd.string _ 9 ?hg (N := 76) ?hd (xs := ([] : List ByteArray)) (inner := []) (ok := fun _ => True) (okp := fun _ => True) ?hr ?hp (fun _ hk => hk) trivial (Below.refl _ _) (Nat.le_refl _) (by simp) ?_; (case hd => rfl); (case hg => rfl); (case hr => first | (go_simp; done) | (go_simp; rfl)); (case hp => exact (Reps.none _ _)); intro v227 w52 ho53 hb hg_ hnew_; clear hg_ hnew_; (first | rw [← Ny226.out] at ho53 | (simp only [Int.reduceToNat] at ho53; rw [← Ny226.out] at ho53)); replace HO_200001 := Aside0.mk (Kd.R_below (by (with_reducible repeat first | apply Kd.R_alloc | apply Kd.R_drewN | apply Kd.R_drew); exact HO_200001.out) hb); replace HO_206001 := Aside0.mk (Kd.R_below (by (with_reducible repeat first | apply Kd.R_alloc | apply Kd.R_drewN | apply Kd.R_drew); exact HO_206001.out) hb); have HO228 := Aside0.mk (Kd.R_lower (Kd.R_new' (Kd.R_new' ho53 (Kd.R_lt (by (with_reducible repeat first | apply Kd.R_alloc | apply Kd.R_drewN | apply Kd.R_drew); exact HO_11.out))) (Kd.R_lt (by (with_reducible repeat first | apply Kd.R_alloc | apply Kd.R_drewN | apply Kd.R_drew); exact HO_64.out))) (below_size (by repeat first | (with_reducible first | exact HB.out | apply below_alloc | apply pw_below_drewN | apply below_drew1 | refine below_set ?_ GE199.out | refine below_set ?_ GE205.out) | exact HB.out))); replace HO_11 := Aside0.mk (Kd.R_elder' (by (with_reducible repeat first | apply Kd.R_alloc | apply Kd.R_drewN | apply Kd.R_drew); exact HO_11.out) (Kd.R_base ho53) hb); replace HO_64 := Aside0.mk (Kd.R_elder' (by (with_reducible repeat first | apply Kd.R_alloc | apply Kd.R_drewN | apply Kd.R_drew); exact HO_64.out) (Kd.R_base ho53) hb); replace BK199 := Aside0.mk (blk_below (g := gb199) (o := .cells #[.string t194, .slice Ao9 t195.length co9] 55 (0, 0)) (by (with_reducible repeat first | apply blk_drewN | apply blk_drew | apply blk_alloc); exact BK199.out) hb); replace BK205 := Aside0.mk (blk_below (g := gb205) (o := .cells #[.string t200, .slice Ao14 t201.length co14] 55 (0, 0)) (by (with_reducible repeat first | apply blk_drewN | apply blk_drew | apply blk_alloc); exact BK205.out) hb); replace HB := Aside0.mk (below_step (by repeat first | (with_reducible first | exact HB.out | apply below_alloc | apply pw_below_drewN | apply below_drew1 | refine below_set ?_ GE199.out | refine below_set ?_ GE205.out) | exact HB.out) hb); clear hb ho53))
                go_loopg [17, 79] k4 (fun kq v17 v79 w' => ∃ (x17_5 : List ByteArray) (x79_5 : Int), v79 = .int .i64 x79_5 ∧ Aside0 (impl_SameExpr.l3 kq x11_2 (rdOf ByteArray.empty x10_2 x66_3) x73_4 x17_5 x10_2 (x10_2.length : Int) x66_3 ji49 x73_4 x11_2 (x11_2.length : Int) x79_5 t194 t195 t200 t201 = some r) ∧ Aside0 (kq ≤ k4) ∧ Aside0 (Kd.R Kd.string 9 w' w.heap.size (fun k_ => some k_ ≠ (v17 : Value).ownBlock ∧ some k_ ≠ ((.slice (some ad225) x10_2.length co45) : Value).ownBlock) (.slice Ao50 x11_2.length co50) x11_2) ∧ Aside0 (Kd.R Kd.string 9 w' w.heap.size (fun k_ => some k_ ≠ ((.slice Ao50 x11_2.length co50) : Value).ownBlock ∧ some k_ ≠ ((.slice (some ad225) x10_2.length co45) : Value).ownBlock ∧ some k_ ≠ ((.slice Ao50 x11_2.length co50) : Value).ownBlock) v17 x17_5) ∧ Aside0 (Kd.R Kd.string 9 w' w.heap.size (fun k_ => some k_ ≠ ((.slice Ao50 x11_2.length co50) : Value).ownBlock ∧ some k_ ≠ (v17 : Value).ownBlock ∧ some k_ ≠ ((.slice Ao50 x11_2.length co50) : Value).ownBlock) (.slice (some ad225) x10_2.length co45) x10_2) ∧ Aside0 (Kd.R Kd.string 9 w' w.heap.size (fun k_ => some k_ ≠ (v17 : Value).ownBlock ∧ some k_ ≠ ((.slice (some ad225) x10_2.length co45) : Value).ownBlock) (.slice Ao50 x11_2.length co50) x11_2) ∧ Aside0 (Kd.R k55 55 w' w.heap.size (fun k_ => some k_ ≠ ((.slice Ao14 t201.length co14) : Value).ownBlock ∧ k_ ≠ gb199 ∧ k_ ≠ gb205) (.slice Ao9 t195.length co9) t195) ∧ Aside0 (Kd.R k55 55 w' w.heap.size (fun k_ => some k_ ≠ ((.slice Ao9 t195.length co9) : Value).ownBlock ∧ k_ ≠ gb199 ∧ k_ ≠ gb205) (.slice Ao14 t201.length co14) t201) ∧ Aside0 (w'.heap[gb199]? = some (.cells #[.string t194, (.slice Ao9 t195.length co9)] 55 (0, 0))) ∧ Aside0 (w'.heap[gb205]? = some (.cells #[.string t200, (.slice Ao14 t201.length co14)] 55 (0, 0))) ∧ Aside0 (Below w.heap.size w w'))
                case atStart => exact ⟨(y226), (0), (by first | rfl | (simp; done) | (simp [*]; done)), H', ⟨Nat.le_refl _⟩, ⟨by (with_reducible repeat first | apply Kd.R_alloc | apply Kd.R_drewN | apply Kd.R_drew); exact Kd.R_mono HO_11.out (fun _ hk => ⟨hk.2, hk.1⟩)⟩, ⟨by (with_reducible repeat first | apply Kd.R_alloc | apply Kd.R_drewN | apply Kd.R_drew); exact Kd.R_mono HO228.out (fun _ hk => ⟨hk.1.2, ⟨hk.2, hk.1.2⟩⟩)⟩, ⟨by (with_reducible repeat first | apply Kd.R_alloc | apply Kd.R_drewN | apply Kd.R_drew); exact Kd.R_mono HO_64.out (fun _ hk => ⟨hk.1, ⟨hk.2, hk.1⟩⟩)⟩, ⟨by (with_reducible repeat first | apply Kd.R_alloc | apply Kd.R_drewN | apply Kd.R_drew); exact Kd.R_mono HO_11.out (fun _ hk => ⟨hk.2, hk.1⟩)⟩, ⟨by (with_reducible repeat first | apply Kd.R_alloc | apply Kd.R_drewN | apply Kd.R_drew); exact HO_200001.out⟩, ⟨by (with_reducible repeat first | apply Kd.R_alloc | apply Kd.R_drewN | apply Kd.R_drew); exact HO_206001.out⟩, ⟨by (with_reducible repeat first | apply blk_drewN | apply blk_drew | apply blk_alloc); exact BK199.out⟩, ⟨by (with_reducible repeat first | apply blk_drewN | apply blk_drew | apply blk_alloc); exact BK205.out⟩, ⟨by repeat (first | (with_reducible first | exact HB.out | apply below_alloc | apply pw_below_drewN | apply below_drew1 | refine below_set ?_ GE199.out | refine below_set ?_ GE205.out) | exact HB.out)⟩⟩
                case round =>
                 clear H'; try clear c1; try clear p2; try clear q2; try clear hx2; try clear c3; try clear p3; try clear q3; try clear hx3; try clear qi3; try clear c4; try clear c5; try clear p6; try clear c12; try clear c15; try clear c16; try clear c19; try clear c19b0; try clear c19b1; try clear p21; try clear q21; try clear hx21; try clear p22; try clear q22; try clear hx22; try clear c34; try clear c34b0; try clear c35; try clear c35b0; try clear c36; try clear c36b0; try clear c37; try clear c37b0; try clear c37b1; try clear p38; try clear q38; try clear hx38; try clear qi38; try clear c39; try clear c39b0; try clear c39b1; try clear c40; try clear c40b0; try clear c40b1; try clear c41; try clear c43; try clear c46; try clear c46b0; try clear c47; try clear c47b0; try clear c48; try clear c48b0; try clear c51; try clear c51b0; try clear hcz13_0; try clear hcz13_1; try clear hcz8_0; try clear hcz8_1; try clear hfz13_0; try clear hfz13_1; try clear hfz8_0; try clear hfz8_1; try clear hx218_0; try clear hx225_0; try clear p2; try clear p21; try clear p218; try clear p22; try clear p225; try clear p3; try clear p38; try clear p6; try clear q2; try clear q21; try clear q218; try clear q22; try clear q225; try clear q3; try clear q38
                 obtain ⟨x17_5, x79_5, rfl, HA, HK5, HO_11, HO_17, HO_64, HO_77, HO_200001, HO_206001, BK199, BK205, HB⟩ := hrel
                 cases gk with
                 | zero => exact absurd HA.out (by simp [impl_SameExpr.l3])
                 | succ k5 =>
                  have H := HA.out; clear HA
                  simp only [impl_SameExpr.l3] at H
                  by_cases c54 : x79_5 < (x11_2.length : Int)
                  ·rw [if_pos c54] at H
                   have c54b0 : decide (x79_5 < (x11_2.length : Int)) = true := decide_eq_true c54
                   clear c54
                   by_cases c55 : 0 ≤ x79_5
                   ·rw [if_pos c55] at H
                    have c55b0 : decide (0 ≤ x79_5) = true := decide_eq_true c55
                    clear c55
                    by_cases c56 : x79_5 < (x11_2.length : Int)
                    ·rw [if_pos c56] at H
                     have c56b0 : decide (x79_5 < (x11_2.length : Int)) = true := decide_eq_true c56
                     clear c56; have c57b0 := eq_true (of_decide_eq_true (by first | (with_reducible assumption) | assumption) : 0 ≤ x79_5)
                     obtain ⟨ji58, hji58⟩ : ∃ j_ : Int, (shr .i64 x73_4 x79_5) = j_ := ⟨_, rfl⟩
                     replace H : (if (Go.bits .and .i64 (ji58) 1) = 1 then (if x17_5.length < 8796093022208 then (impl_SameExpr.l3 k5 x11_2 (rdOf ByteArray.empty x10_2 x66_3) x73_4 (x17_5 ++ [rdOf ByteArray.empty x11_2 x79_5]) x10_2 (x10_2.length : Int) x66_3 ji49 x73_4 x11_2 (x11_2.length : Int) (wrap64 (x79_5 + 1)) t194 t195 t200 t201) else (none)) else (impl_SameExpr.l3 k5 x11_2 (rdOf ByteArray.empty x10_2 x66_3) x73_4 x17_5 x10_2 (x10_2.length : Int) x66_3 ji49 x73_4 x11_2 (x11_2.length : Int) (wrap64 (x79_5 + 1)) t194 t195 t200 t201)) = some r := by first | (rw [hji58] at H; exact H) | (simp only [hji58] at H ⊢; exact H)
                     have hji58_ : (x73_4 / 2 ^ min x79_5.toNat 64) = ji58 := hji58
                     have hji58z : x79_5 ≤ 64 → (x73_4 / 2 ^ x79_5.toNat) = ji58 := shr_small hji58
                     by_cases c59 : (Go.bits .and .i64 (ji58) 1) = 1
                     ·rw [if_pos c59] at H
                      have c59b0 : ((Go.bits .and .i64 (ji58) 1) == 1) = true := beq_iff_eq.mpr c59
                      have c59b1 : ((Go.bits .and .i64 (ji58) 1) != 1) = false := bne_eq_false_iff_eq.mpr c59
                      clear c59
                      by_cases c60 : x17_5.length < 8796093022208
                      ·rw [if_pos c60] at H
                       have LMc60 := Aside0.mk c60; clear c60
                       obtain ⟨y230, hy230⟩ : ∃ y_ : List ByteArray, y_ = (x17_5 ++ [rdOf ByteArray.empty x11_2 x79_5]) := ⟨_, rfl⟩
                       replace H : (impl_SameExpr.l3 k5 x11_2 (rdOf ByteArray.empty x10_2 x66_3) x73_4 y230 x10_2 (x10_2.length : Int) x66_3 ji49 x73_4 x11_2 (x11_2.length : Int) (wrap64 (x79_5 + 1)) t194 t195 t200 t201) = some r := by first | (rw [hy230]; with_reducible exact H) | (have H2_ := (Option.bind_some _ _).symm.trans H; rw [hy230]; with_reducible exact H2_) | (have H2_ := (Option.bind_some _ _).symm.trans H; with_reducible exact H2_) | with_reducible exact H | (rw [hy230]; exact H) | exact H
                       have Ny230 := Aside0.mk hy230; clear hy230; have H' := Aside0.mk H; clear H
                       have p229 : 0 ≤ (x79_5 : Int) := of_decide_eq_true (by first | (with_reducible assumption) | assumption)
                       have q229 : x79_5 < (x11_2.length : Int) := of_decide_eq_true (by first | (with_reducible assumption) | assumption)
                       obtain ⟨ad229, e229, hx229_0⟩ := Kd.at_string (Kd.R_reads' HO_77.out).2.2 x79_5 p229 q229
                       cases e229
                       replace p229 := eq_true p229
                       replace q229 := eq_true q229
                       go_wp2_with (first | ((with_reducible refine gate_builtin (b := .append) (xs := #[.tmp 89, .tmp 91]) rfl ?_); at_builtin; refine Kd.R_append Kd.string (w0 := w) w.heap.size rfl (.tmp 89) (.tmp 91) 23 9 (.string ⟨#[]⟩) 16 rfl Try.underlying23 info9 rfl (by decide) (by omega) u17 x17_5 (rdOf ByteArray.empty x11_2 x79_5) [.string (rdOf ByteArray.empty x11_2 x79_5)] (fun k_ => some k_ ≠ (.slice (some ad229) x11_2.length co50 : Value).ownBlock ∧ some k_ ≠ (.slice (some ad225) x10_2.length co45 : Value).ownBlock ∧ some k_ ≠ (.slice (some ad229) x11_2.length co50 : Value).ownBlock) (fun _ => False) rfl rfl ?aP (fun _ hk => hk.elim) ?aF ?aO ?aB ?aS ?aL ?_; (case aP => exact rfl); (case aB => exact (by repeat first | (with_reducible first | exact HB.out | apply below_alloc | apply pw_below_drewN | apply below_drew1 | refine below_set ?_ GE199.out | refine below_set ?_ GE205.out) | exact HB.out)); (case aF => exact (fun k_ hk => ⟨Kd.fresh' (Kd.R_lt (by (with_reducible repeat first | apply Kd.R_alloc | apply Kd.R_drewN | apply Kd.R_drew); exact HO_11.out)) k_ hk, Kd.fresh' (Kd.R_lt (by (with_reducible repeat first | apply Kd.R_alloc | apply Kd.R_drewN | apply Kd.R_drew); exact HO_64.out)) k_ hk, Kd.fresh' (Kd.R_lt (by (with_reducible repeat first | apply Kd.R_alloc | apply Kd.R_drewN | apply Kd.R_drew); exact HO_77.out)) k_ hk⟩)); (case aO => exact (by (with_reducible repeat first | apply Kd.R_alloc | apply Kd.R_drewN | apply Kd.R_drew); exact HO_17.out)); (case aS => exact (below_size (by repeat first | (with_reducible first | exact HB.out | apply below_alloc | apply pw_below_drewN | apply below_drew1 | refine below_set ?_ GE199.out | refine below_set ?_ GE205.out) | exact HB.out))); (case aL => have := LMc60.out; omega); intro v231 w61 ho hb hg hat; rw [← Ny230.out] at ho; replace HO_11 := Aside0.mk (Kd.R_after (ok := (fun k_ => some k_ ≠ (.slice (some ad225) x10_2.length co45 : Value).ownBlock)) (by (with_reducible repeat first | apply Kd.R_alloc | apply Kd.R_drewN | apply Kd.R_drew); exact Kd.R_mono HO_11.out (fun _ hk => ⟨hk.2, hk.1⟩)) hg hat); replace HO_64 := Aside0.mk (Kd.R_after (ok := (fun k_ => some k_ ≠ (.slice (some ad229) x11_2.length co50 : Value).ownBlock ∧ some k_ ≠ (.slice (some ad229) x11_2.length co50 : Value).ownBlock)) (by (with_reducible repeat first | apply Kd.R_alloc | apply Kd.R_drewN | apply Kd.R_drew); exact Kd.R_mono HO_64.out (fun _ hk => ⟨⟨hk.1, hk.2.2⟩, hk.2.1⟩)) hg hat); replace HO_77 := Aside0.mk (Kd.R_after (ok := (fun k_ => some k_ ≠ (.slice (some ad225) x10_2.length co45 : Value).ownBlock)) (by (with_reducible repeat first | apply Kd.R_alloc | apply Kd.R_drewN | apply Kd.R_drew); exact Kd.R_mono HO_77.out (fun _ hk => ⟨hk.2, hk.1⟩)) hg hat); replace HO_200001 := Aside0.mk (Kd.R_over' (by (with_reducible repeat first | apply Kd.R_alloc | apply Kd.R_drewN | apply Kd.R_drew); exact HO_200001.out) (Kd.R_typed (by (with_reducible repeat first | apply Kd.R_alloc | apply Kd.R_drewN | apply Kd.R_drew); exact HO_17.out)) (by decide) hg); replace HO_206001 := Aside0.mk (Kd.R_over' (by (with_reducible repeat first | apply Kd.R_alloc | apply Kd.R_drewN | apply Kd.R_drew); exact HO_206001.out) (Kd.R_typed (by (with_reducible repeat first | apply Kd.R_alloc | apply Kd.R_drewN | apply Kd.R_drew); exact HO_17.out)) (by decide) hg); replace BK199 := Aside0.mk (blk_grown (g := gb199) (o := .cells #[.string t194, .slice Ao9 t195.length co9] 55 (0, 0)) (by (with_reducible repeat first | apply blk_drewN | apply blk_drew | apply blk_alloc); exact BK199.out) hg (Kd.R_ne HO_17.out BK199.out (by decide))); replace BK205 := Aside0.mk (blk_grown (g := gb205) (o := .cells #[.string t200, .slice Ao14 t201.length co14] 55 (0, 0)) (by (with_reducible repeat first | apply blk_drewN | apply blk_drew | apply blk_alloc); exact BK205.out) hg (Kd.R_ne HO_17.out BK205.out (by decide))); replace HB := Aside0.mk (hb); have HO232 := Aside0.mk (ho); clear HO_17; clear ho hb hg hat))
                       go_roundg k5
                       case measure => have := HJ4.out; have := HK2.out; have := HK3.out; have := HK4.out; have := HK5.out; omega
                       case rel => exact ⟨(y230), (wrap64 (x79_5 + 1)), (by first | rfl | (simp; done) | (simp [*]; done)), H', ⟨by have := HJ4.out; have := HK2.out; have := HK3.out; have := HK4.out; have := HK5.out; omega⟩, ⟨by (with_reducible repeat first | apply Kd.R_alloc | apply Kd.R_drewN | apply Kd.R_drew); exact Kd.R_mono HO_11.out (fun _ hk => ⟨hk.2, hk.1⟩)⟩, ⟨by (with_reducible repeat first | apply Kd.R_alloc | apply Kd.R_drewN | apply Kd.R_drew); exact HO232.out⟩, ⟨by (with_reducible repeat first | apply Kd.R_alloc | apply Kd.R_drewN | apply Kd.R_drew); exact Kd.R_mono HO_64.out (fun _ hk => ⟨hk.1.1, ⟨hk.2, hk.1.2⟩⟩)⟩, ⟨by (with_reducible repeat first | apply Kd.R_alloc | apply Kd.R_drewN | apply Kd.R_drew); exact Kd.R_mono HO_77.out (fun _ hk => ⟨hk.2, hk.1⟩)⟩, ⟨by (with_reducible repeat first | apply Kd.R_alloc | apply Kd.R_drewN | apply Kd.R_drew); exact HO_200001.out⟩, ⟨by (with_reducible repeat first | apply Kd.R_alloc | apply Kd.R_drewN | apply Kd.R_drew); exact HO_206001.out⟩, ⟨by (with_reducible repeat first | apply blk_drewN | apply blk_drew | apply blk_alloc); exact BK199.out⟩, ⟨by (with_reducible repeat first | apply blk_drewN | apply blk_drew | apply blk_alloc); exact BK205.out⟩, ⟨by repeat (first | (with_reducible first | exact HB.out | apply below_alloc | apply pw_below_drewN | apply below_drew1 | refine below_set ?_ GE199.out | refine below_set ?_ GE205.out) | exact HB.out)⟩⟩
                      ·rw [if_neg c60] at H
                       exact absurd H (by simp)
                     ·rw [if_neg c59] at H
                      have c59b0 : ((Go.bits .and .i64 (ji58) 1) == 1) = false := beq_eq_false_iff_ne.mpr c59
                      have c59b1 : ((Go.bits .and .i64 (ji58) 1) != 1) = true := bne_iff_ne.mpr c59
                      have H' := Aside0.mk H; clear H
                      have p229 : 0 ≤ (x79_5 : Int) := of_decide_eq_true (by first | (with_reducible assumption) | assumption)
                      have q229 : x79_5 < (x11_2.length : Int) := of_decide_eq_true (by first | (with_reducible assumption) | assumption)
                      obtain ⟨ad229, e229, hx229_0⟩ := Kd.at_string (Kd.R_reads' HO_77.out).2.2 x79_5 p229 q229
                      cases e229
                      replace p229 := eq_true p229
                      replace q229 := eq_true q229
                      go_wp2
                      go_roundg k5
                      case measure => have := HJ4.out; have := HK2.out; have := HK3.out; have := HK4.out; have := HK5.out; omega
                      case rel => exact ⟨(x17_5), (wrap64 (x79_5 + 1)), (by first | rfl | (simp; done) | (simp [*]; done)), H', ⟨by have := HJ4.out; have := HK2.out; have := HK3.out; have := HK4.out; have := HK5.out; omega⟩, ⟨by (with_reducible repeat first | apply Kd.R_alloc | apply Kd.R_drewN | apply Kd.R_drew); exact HO_11.out⟩, ⟨by (with_reducible repeat first | apply Kd.R_alloc | apply Kd.R_drewN | apply Kd.R_drew); exact HO_17.out⟩, ⟨by (with_reducible repeat first | apply Kd.R_alloc | apply Kd.R_drewN | apply Kd.R_drew); exact HO_64.out⟩, ⟨by (with_reducible repeat first | apply Kd.R_alloc | apply Kd.R_drewN | apply Kd.R_drew); exact HO_77.out⟩, ⟨by (with_reducible repeat first | apply Kd.R_alloc | apply Kd.R_drewN | apply Kd.R_drew); exact HO_200001.out⟩, ⟨by (with_reducible repeat first | apply Kd.R_alloc | apply Kd.R_drewN | apply Kd.R_drew); exact HO_206001.out⟩, ⟨by (with_reducible repeat first | apply blk_drewN | apply blk_drew | apply blk_alloc); exact BK199.out⟩, ⟨by (with_reducible repeat first | apply blk_drewN | apply blk_drew | apply blk_alloc); exact BK205.out⟩, ⟨by repeat (first | (with_reducible first | exact HB.out | apply below_alloc | apply pw_below_drewN | apply below_drew1 | refine below_set ?_ GE199.out | refine below_set ?_ GE205.out) | exact HB.out)⟩⟩
                    ·rw [if_neg c56] at H
                     exact absurd H (by simp)
                   ·rw [if_neg c55] at H
                    exact absurd H (by simp)
                  ·rw [if_neg c54] at H
                   have c54b0 : decide (x79_5 < (x11_2.length : Int)) = false := decide_eq_false c54
                   clear c54
                   replace H := Option.bind_eq_some_iff.mp H
                   obtain ⟨t233, A620, H⟩ := H
                   replace H : ((impl_expr_holds.f k5 t200 t201 (rdOf ByteArray.empty x10_2 x66_3) x17_5).bind fun t234 => (if (t233 != t234) = true then (some false) else (impl_SameExpr.l2 k5 x11_2 (rdOf ByteArray.empty x10_2 x66_3) x10_2 (x10_2.length : Int) x66_3 ji49 (wrap64 (x73_4 + 1)) t194 t195 t200 t201))) = some r := H
                   have A62 := Aside0.mk A620; clear A620
                   replace H := Option.bind_eq_some_iff.mp H
                   obtain ⟨t234, A630, H⟩ := H
                   replace H : (if (t233 != t234) = true then (some false) else (impl_SameExpr.l2 k5 x11_2 (rdOf ByteArray.empty x10_2 x66_3) x10_2 (x10_2.length : Int) x66_3 ji49 (wrap64 (x73_4 + 1)) t194 t195 t200 t201)) = some r := H
                   have A63 := Aside0.mk A630; clear A630
                   by_cases c64 : (t233 != t234) = true
                   ·rw [if_pos c64] at H
                    have c64b0 : (t233 != t234) = true := c64
                    (try (have c64b1 : decide (t233 = t234) = false := by simpa using c64))
                    (try (have c64b2 : (t233 == t234) = false := by simpa using c64))
                    (try (have c64b3 : ¬ (t233 = t234) := by simpa using c64))
                    clear c64
                    obtain rfl := Option.some.inj H
                    try go_wp2; replace HO_11 := Aside0.mk (Kd.R_drew HO_11.out); replace HO_17 := Aside0.mk (Kd.R_drew HO_17.out); replace HO_64 := Aside0.mk (Kd.R_drew HO_64.out); replace HO_77 := Aside0.mk (Kd.R_drew HO_77.out); replace HO_200001 := Aside0.mk (Kd.R_drew HO_200001.out); replace HO_206001 := Aside0.mk (Kd.R_drew HO_206001.out); replace BK199 := Aside0.mk (blk_drew BK199.out); replace BK205 := Aside0.mk (blk_drew BK205.out); replace HB := Aside0.mk (below_drew1 HB.out)
                    obtain ⟨Ao66, co66, eo66⟩ := Kd.R_slice HO_17.out
                    (first | subst eo66 | (injection eo66 with f1_ f2_ f3_; have f4_ := f1_.symm; have f5_ := f3_.symm; clear f1_ f2_ f3_; subst f4_; subst f5_))
                    refine start_ (n := 9) (S := fun w' => w'.cell? ⟨gb199, 0, none⟩ = some (.string t194) ∧ w'.cell? ⟨gb199, 1, none⟩ = some (.slice Ao9 t195.length co9) ∧ w'.cell? ⟨gb205, 0, none⟩ = some (.string t200) ∧ w'.cell? ⟨gb205, 1, none⟩ = some (.slice Ao14 t201.length co14)) (ds := []) #[ff,ff,ff,ff,ff,ff,ff,ff,ff] (by kernel_rfl) rfl rfl ⟨(blk_cell BK199.out 0).trans rfl, (blk_cell BK199.out 1).trans rfl, (blk_cell BK205.out 0).trans rfl, (blk_cell BK205.out 1).trans rfl⟩ (fun hHeld => ?_); refine with_tabW impl_SameExpr.tab29 impl_SameExpr.bits29 (fun HT_ HW_ => ?_)
                    generalize wr.drew = w65 at HO_11 HO_17 HO_64 HO_77 HO_200001 HO_206001 BK199 BK205 HB hHeld ⊢
                    refine pu_ 1 (some 95) (v := ?_) (a' := ?_) #[ff,tt,ff,ff,ff,ff,ff,ff,ff] HT_.out rfl rfl (by kernel_rfl) (fun _ _ _ h => h) (Or.inl ⟨by rfl, ?_⟩) ?_ ?_
                    rotate_left
                    ·intro w'
                     go_simp
                     with_reducible rfl
                    rotate_left
                    ·simp only [Act.put, ps_]
                     rfl
                    refine pu_ 2 (some 96) (v := ?_) (a' := ?_) #[ff,tt,tt,ff,ff,ff,ff,ff,ff] HT_.out rfl rfl (by kernel_rfl) (fun _ _ _ h => h) (Or.inl ⟨by rfl, ?_⟩) ?_ ?_
                    rotate_left
                    ·intro w'
                     go_simp
                     with_reducible rfl
                    rotate_left
                    ·simp only [Act.put, ps_]
                     rfl
                    refine pu_ 5 (some 99) (v := ?_) (a' := ?_) #[ff,tt,tt,ff,ff,tt,ff,ff,ff] HT_.out rfl rfl (by kernel_rfl) (fun _ _ _ h => h) (Or.inl ⟨by rfl, ?_⟩) ?_ ?_
                    rotate_left
                    ·intro w'
                     go_simp
                     with_reducible rfl
                    rotate_left
                    ·simp only [Act.put, ps_]
                     rfl
                    refine pu_ 6 (some 100) (v := ?_) (a' := ?_) #[ff,tt,tt,ff,ff,tt,tt,ff,ff] HT_.out rfl rfl (by kernel_rfl) (fun _ _ _ h => h) (Or.inl ⟨by rfl, ?_⟩) ?_ ?_
                    rotate_left
                    ·intro w'
                     go_simp
                     with_reducible rfl
                    rotate_left
                    ·simp only [Act.put, ps_]
                     rfl
                    refine take_ (i := 0) (N := some 94) (v := ?_) (a' := ?_) #[tt,tt,tt,ff,ff,tt,tt,ff,ff] rfl rfl (take_ofW HT_.out HW_.out (by kernel_rfl)) (fun _ _ _ h => h) (Or.inl ⟨by rfl, ?_⟩) hHeld ?_ ?_
                    rotate_left
                    ·rintro w' ⟨s0, s1, s2, s3⟩
                     go_simp
                     with_reducible rfl
                    rotate_left
                    ·simp only [Act.put, ps_]
                     rfl
                    refine take_ (i := 4) (N := some 98) (v := ?_) (a' := ?_) #[tt,tt,tt,ff,tt,tt,tt,ff,ff] rfl rfl (take_ofW HT_.out HW_.out (by kernel_rfl)) (fun _ _ _ h => h) (Or.inl ⟨by rfl, ?_⟩) hHeld ?_ ?_
                    rotate_left
                    ·rintro w' ⟨s0, s1, s2, s3⟩
                     go_simp
                     with_reducible rfl
                    rotate_left
                    ·simp only [Act.put, ps_]
                     rfl
                    refine one_ (i := 3) (N := some 97) #[tt,tt,tt,tt,tt,tt,tt,ff,ff] rfl rfl (one_of HT_.out (by kernel_rfl)) (by decide) (fun K hK => ?_)
                    refine goes_ Try.func48 (by kernel_rfl) rfl #[.agg #[.string t194, .slice Ao9 t195.length co9], .string (rdOf ByteArray.empty x10_2 x66_3), .slice Ao66 x17_5.length co66] (by rfl) rfl rfl (by (try simp only [List.map_toArray, List.map_cons, List.map_nil]); first | done | rfl) ?_
                    with_reducible refine (impl_expr_holds.calls k5 t194 _ _ t195 (rdOf ByteArray.empty x10_2 x66_3) _ _ x17_5 t233 _ ?side1 ?side2 ?side3 ?side4 A62.out).mono ?_
                    (case side1 => repeat (first | exact (Kd.R_reads' HO_200001.out).2.2 | with_reducible first | apply Kd.C_alloc | apply Kd.C_drewN | apply Kd.C_drew))
                    (case side2 => exact (Kd.R_reads' HO_200001.out).2.1)
                    (case side3 => repeat (first | exact (Kd.R_reads' HO_17.out).2.2 | with_reducible first | apply Kd.C_alloc | apply Kd.C_drewN | apply Kd.C_drew))
                    (case side4 => exact (Kd.R_reads' HO_17.out).2.1)
                    rintro e w67 ⟨rfl, hb⟩
                    refine ⟨_, rfl, ?_⟩
                    have n0_ := Aside0.mk (Kd.R_below (by (with_reducible repeat first | apply Kd.R_alloc | apply Kd.R_drewN | apply Kd.R_drew); exact HO_11.out) hb)
                    have n1_ := Aside0.mk (Kd.R_below (by (with_reducible repeat first | apply Kd.R_alloc | apply Kd.R_drewN | apply Kd.R_drew); exact HO_17.out) hb)
                    have n2_ := Aside0.mk (Kd.R_below (by (with_reducible repeat first | apply Kd.R_alloc | apply Kd.R_drewN | apply Kd.R_drew); exact HO_64.out) hb)
                    have n3_ := Aside0.mk (Kd.R_below (by (with_reducible repeat first | apply Kd.R_alloc | apply Kd.R_drewN | apply Kd.R_drew); exact HO_77.out) hb)
                    have n4_ := Aside0.mk (Kd.R_below (by (with_reducible repeat first | apply Kd.R_alloc | apply Kd.R_drewN | apply Kd.R_drew); exact HO_200001.out) hb)
                    have n5_ := Aside0.mk (Kd.R_below (by (with_reducible repeat first | apply Kd.R_alloc | apply Kd.R_drewN | apply Kd.R_drew); exact HO_206001.out) hb)
                    have n6_ := Aside0.mk (blk_below (g := gb199) (o := .cells #[.string t194, .slice Ao9 t195.length co9] 55 (0, 0)) (by (with_reducible repeat first | apply blk_drewN | apply blk_drew | apply blk_alloc); exact BK199.out) hb)
                    have n7_ := Aside0.mk (blk_below (g := gb205) (o := .cells #[.string t200, .slice Ao14 t201.length co14] 55 (0, 0)) (by (with_reducible repeat first | apply blk_drewN | apply blk_drew | apply blk_alloc); exact BK205.out) hb)
                    have n8_ := Aside0.mk (below_step (by repeat first | (with_reducible first | exact HB.out | apply below_alloc | apply pw_below_drewN | apply below_drew1 | refine below_set ?_ GE199.out | refine below_set ?_ GE205.out) | exact HB.out) hb); clear HO_11 HO_17 HO_64 HO_77 HO_200001 HO_206001 BK199 BK205 HB; have HO_11 := n0_; have HO_17 := n1_; have HO_64 := n2_; have HO_77 := n3_; have HO_200001 := n4_; have HO_206001 := n5_; have BK199 := n6_; have BK205 := n7_; have HB := n8_; clear n0_ n1_ n2_ n3_ n4_ n5_ n6_ n7_ n8_
                    (try clear hb)
                    (try clear hb2)
                    (try clear hk)
                    (try clear hi)
                    refine hK.out _ _ ⟨(blk_cell BK199.out 0).trans rfl, (blk_cell BK199.out 1).trans rfl, (blk_cell BK205.out 0).trans rfl, (blk_cell BK205.out 1).trans rfl⟩ (fun hHeld => ?_)
                    clear hK K
                    refine norm_ (a' := ?_) ?_ ?_
                    rotate_left
                    ·show Act.put _ (some 97) _ = _
                     simp only [Act.put, ps_]
                     rfl
                    refine one_ (i := 7) (N := some 101) #[tt,tt,tt,tt,tt,tt,tt,tt,ff] rfl rfl (one_of HT_.out (by kernel_rfl)) (by decide) (fun K hK => ?_)
                    refine goes_ Try.func48 (by kernel_rfl) rfl #[.agg #[.string t200, .slice Ao14 t201.length co14], .string (rdOf ByteArray.empty x10_2 x66_3), .slice Ao66 x17_5.length co66] (by rfl) rfl rfl (by (try simp only [List.map_toArray, List.map_cons, List.map_nil]); first | done | rfl) ?_
                    with_reducible refine (impl_expr_holds.calls k5 t200 _ _ t201 (rdOf ByteArray.empty x10_2 x66_3) _ _ x17_5 t234 _ ?side1 ?side2 ?side3 ?side4 A63.out).mono ?_
                    (case side1 => repeat (first | exact (Kd.R_reads' HO_206001.out).2.2 | with_reducible first | apply Kd.C_alloc | apply Kd.C_drewN | apply Kd.C_drew))
                    (case side2 => exact (Kd.R_reads' HO_206001.out).2.1)
                    (case side3 => repeat (first | exact (Kd.R_reads' HO_17.out).2.2 | with_reducible first | apply Kd.C_alloc | apply Kd.C_drewN | apply Kd.C_drew))
                    (case side4 => exact (Kd.R_reads' HO_17.out).2.1)
                    rintro e w68 ⟨rfl, hb⟩
                    refine ⟨_, rfl, ?_⟩
                    have n0_ := Aside0.mk (Kd.R_below (by (with_reducible repeat first | apply Kd.R_alloc | apply Kd.R_drewN | apply Kd.R_drew); exact HO_11.out) hb)
                    have n1_ := Aside0.mk (Kd.R_below (by (with_reducible repeat first | apply Kd.R_alloc | apply Kd.R_drewN | apply Kd.R_drew); exact HO_17.out) hb)
                    have n2_ := Aside0.mk (Kd.R_below (by (with_reducible repeat first | apply Kd.R_alloc | apply Kd.R_drewN | apply Kd.R_drew); exact HO_64.out) hb)
                    have n3_ := Aside0.mk (Kd.R_below (by (with_reducible repeat first | apply Kd.R_alloc | apply Kd.R_drewN | apply Kd.R_drew); exact HO_77.out) hb)
                    have n4_ := Aside0.mk (Kd.R_below (by (with_reducible repeat first | apply Kd.R_alloc | apply Kd.R_drewN | apply Kd.R_drew); exact HO_200001.out) hb)
                    have n5_ := Aside0.mk (Kd.R_below (by (with_reducible repeat first | apply Kd.R_alloc | apply Kd.R_drewN | apply Kd.R_drew); exact HO_206001.out) hb)
                    have n6_ := Aside0.mk (blk_below (g := gb199) (o := .cells #[.string t194, .slice Ao9 t195.length co9] 55 (0, 0)) (by (with_reducible repeat first | apply blk_drewN | apply blk_drew | apply blk_alloc); exact BK199.out) hb)
                    have n7_ := Aside0.mk (blk_below (g := gb205) (o := .cells #[.string t200, .slice Ao14 t201.length co14] 55 (0, 0)) (by (with_reducible repeat first | apply blk_drewN | apply blk_drew | apply blk_alloc); exact BK205.out) hb)
                    have n8_ := Aside0.mk (below_step (by repeat first | (with_reducible first | exact HB.out | apply below_alloc | apply pw_below_drewN | apply below_drew1 | refine below_set ?_ GE199.out | refine below_set ?_ GE205.out) | exact HB.out) hb); clear HO_11 HO_17 HO_64 HO_77 HO_200001 HO_206001 BK199 BK205 HB; have HO_11 := n0_; have HO_17 := n1_; have HO_64 := n2_; have HO_77 := n3_; have HO_200001 := n4_; have HO_206001 := n5_; have BK199 := n6_; have BK205 := n7_; have HB := n8_; clear n0_ n1_ n2_ n3_ n4_ n5_ n6_ n7_ n8_
                    (try clear hb)
                    (try clear hb2)
                    (try clear hk)
                    (try clear hi)
                    refine hK.out _ _ ⟨(blk_cell BK199.out 0).trans rfl, (blk_cell BK199.out 1).trans rfl, (blk_cell BK205.out 0).trans rfl, (blk_cell BK205.out 1).trans rfl⟩ (fun hHeld => ?_)
                    clear hK K
                    refine norm_ (a' := ?_) ?_ ?_
                    rotate_left
                    ·show Act.put _ (some 101) _ = _
                     simp only [Act.put, ps_]
                     rfl
                    refine pu_ 8 (some 102) (v := ?_) (a' := ?_) #[tt,tt,tt,tt,tt,tt,tt,tt,tt] HT_.out rfl rfl (by kernel_rfl) (fun _ _ _ h => h) (Or.inl ⟨by rfl, ?_⟩) ?_ ?_
                    rotate_left
                    ·intro w'
                     go_simp
                     with_reducible rfl
                    rotate_left
                    ·simp only [Act.put, ps_]
                     rfl
                    refine done_ (done_of HT_.out (by kernel_rfl)) ?_
                    try go_wp2
                    go_ret
                    exact ⟨by first | rfl | (simp [errW_none, errW_some] <;> rfl) | (simp only [← hji49]; first | rfl | (simp [errW_none, errW_some] <;> rfl)) | (simp [*, errW_none, errW_some] <;> rfl), by repeat (first | (with_reducible first | exact HB.out | apply below_alloc | apply pw_below_drewN | apply below_drew1 | refine below_set ?_ GE199.out | refine below_set ?_ GE205.out) | exact HB.out)⟩
                   ·rw [if_neg c64] at H
                    have c64b0 : (t233 != t234) = false := by simpa using c64
                    (try (have c64b1 : decide (t233 = t234) = true := by simpa using c64))
                    (try (have c64b2 : (t233 == t234) = true := by simpa using c64))
                    clear c64; have H' := Aside0.mk H; clear H; try go_wp2; replace HO_11 := Aside0.mk (Kd.R_drew HO_11.out); replace HO_17 := Aside0.mk (Kd.R_drew HO_17.out); replace HO_64 := Aside0.mk (Kd.R_drew HO_64.out); replace HO_77 := Aside0.mk (Kd.R_drew HO_77.out); replace HO_200001 := Aside0.mk (Kd.R_drew HO_200001.out); replace HO_206001 := Aside0.mk (Kd.R_drew HO_206001.out); replace BK199 := Aside0.mk (blk_drew BK199.out); replace BK205 := Aside0.mk (blk_drew BK205.out); replace HB := Aside0.mk (below_drew1 HB.out)
                    obtain ⟨Ao70, co70, eo70⟩ := Kd.R_slice HO_17.out
                    (first | subst eo70 | (injection eo70 with f1_ f2_ f3_; have f4_ := f1_.symm; have f5_ := f3_.symm; clear f1_ f2_ f3_; subst f4_; subst f5_))
                    refine start_ (n := 9) (S := fun w' => w'.cell? ⟨gb199, 0, none⟩ = some (.string t194) ∧ w'.cell? ⟨gb199, 1, none⟩ = some (.slice Ao9 t195.length co9) ∧ w'.cell? ⟨gb205, 0, none⟩ = some (.string t200) ∧ w'.cell? ⟨gb205, 1, none⟩ = some (.slice Ao14 t201.length co14)) (ds := []) #[ff,ff,ff,ff,ff,ff,ff,ff,ff] (by kernel_rfl) rfl rfl ⟨(blk_cell BK199.out 0).trans rfl, (blk_cell BK199.out 1).trans rfl, (blk_cell BK205.out 0).trans rfl, (blk_cell BK205.out 1).trans rfl⟩ (fun hHeld => ?_); refine with_tabW impl_SameExpr.tab29 impl_SameExpr.bits29 (fun HT_ HW_ => ?_)
                    generalize wr.drew = w69 at HO_11 HO_17 HO_64 HO_77 HO_200001 HO_206001 BK199 BK205 HB hHeld ⊢
                    refine pu_ 1 (some 95) (v := ?_) (a' := ?_) #[ff,tt,ff,ff,ff,ff,ff,ff,ff] HT_.out rfl rfl (by kernel_rfl) (fun _ _ _ h => h) (Or.inl ⟨by rfl, ?_⟩) ?_ ?_
                    rotate_left
                    ·intro w'
                     go_simp
                     with_reducible rfl
                    rotate_left
                    ·simp only [Act.put, ps_]
                     rfl
                    refine pu_ 2 (some 96) (v := ?_) (a' := ?_) #[ff,tt,tt,ff,ff,ff,ff,ff,ff] HT_.out rfl rfl (by kernel_rfl) (fun _ _ _ h => h) (Or.inl ⟨by rfl, ?_⟩) ?_ ?_
                    rotate_left
                    ·intro w'
                     go_simp
                     with_reducible rfl
                    rotate_left
                    ·simp only [Act.put, ps_]
                     rfl
                    refine pu_ 5 (some 99) (v := ?_) (a' := ?_) #[ff,tt,tt,ff,ff,tt,ff,ff,ff] HT_.out rfl rfl (by kernel_rfl) (fun _ _ _ h => h) (Or.inl ⟨by rfl, ?_⟩) ?_ ?_
                    rotate_left
                    ·intro w'
                     go_simp
                     with_reducible rfl
                    rotate_left
                    ·simp only [Act.put, ps_]
                     rfl
                    refine pu_ 6 (some 100) (v := ?_) (a' := ?_) #[ff,tt,tt,ff,ff,tt,tt,ff,ff] HT_.out rfl rfl (by kernel_rfl) (fun _ _ _ h => h) (Or.inl ⟨by rfl, ?_⟩) ?_ ?_
                    rotate_left
                    ·intro w'
                     go_simp
                     with_reducible rfl
                    rotate_left
                    ·simp only [Act.put, ps_]
                     rfl
                    refine take_ (i := 0) (N := some 94) (v := ?_) (a' := ?_) #[tt,tt,tt,ff,ff,tt,tt,ff,ff] rfl rfl (take_ofW HT_.out HW_.out (by kernel_rfl)) (fun _ _ _ h => h) (Or.inl ⟨by rfl, ?_⟩) hHeld ?_ ?_
                    rotate_left
                    ·rintro w' ⟨s0, s1, s2, s3⟩
                     go_simp
                     with_reducible rfl
                    rotate_left
                    ·simp only [Act.put, ps_]
                     rfl
                    refine take_ (i := 4) (N := some 98) (v := ?_) (a' := ?_) #[tt,tt,tt,ff,tt,tt,tt,ff,ff] rfl rfl (take_ofW HT_.out HW_.out (by kernel_rfl)) (fun _ _ _ h => h) (Or.inl ⟨by rfl, ?_⟩) hHeld ?_ ?_
                    rotate_left
                    ·rintro w' ⟨s0, s1, s2, s3⟩
                     go_simp
                     with_reducible rfl
                    rotate_left
                    ·simp only [Act.put, ps_]
                     rfl
                    refine one_ (i := 3) (N := some 97) #[tt,tt,tt,tt,tt,tt,tt,ff,ff] rfl rfl (one_of HT_.out (by kernel_rfl)) (by decide) (fun K hK => ?_)
                    refine goes_ Try.func48 (by kernel_rfl) rfl #[.agg #[.string t194, .slice Ao9 t195.length co9], .string (rdOf ByteArray.empty x10_2 x66_3), .slice Ao70 x17_5.length co70] (by rfl) rfl rfl (by (try simp only [List.map_toArray, List.map_cons, List.map_nil]); first | done | rfl) ?_
                    with_reducible refine (impl_expr_holds.calls k5 t194 _ _ t195 (rdOf ByteArray.empty x10_2 x66_3) _ _ x17_5 t233 _ ?side1 ?side2 ?side3 ?side4 A62.out).mono ?_
                    (case side1 => repeat (first | exact (Kd.R_reads' HO_200001.out).2.2 | with_reducible first | apply Kd.C_alloc | apply Kd.C_drewN | apply Kd.C_drew))
                    (case side2 => exact (Kd.R_reads' HO_200001.out).2.1)
                    (case side3 => repeat (first | exact (Kd.R_reads' HO_17.out).2.2 | with_reducible first | apply Kd.C_alloc | apply Kd.C_drewN | apply Kd.C_drew))
                    (case side4 => exact (Kd.R_reads' HO_17.out).2.1)
                    rintro e w71 ⟨rfl, hb⟩
                    refine ⟨_, rfl, ?_⟩
                    have n0_ := Aside0.mk (Kd.R_below (by (with_reducible repeat first | apply Kd.R_alloc | apply Kd.R_drewN | apply Kd.R_drew); exact HO_11.out) hb)
                    have n1_ := Aside0.mk (Kd.R_below (by (with_reducible repeat first | apply Kd.R_alloc | apply Kd.R_drewN | apply Kd.R_drew); exact HO_17.out) hb)
                    have n2_ := Aside0.mk (Kd.R_below (by (with_reducible repeat first | apply Kd.R_alloc | apply Kd.R_drewN | apply Kd.R_drew); exact HO_64.out) hb)
                    have n3_ := Aside0.mk (Kd.R_below (by (with_reducible repeat first | apply Kd.R_alloc | apply Kd.R_drewN | apply Kd.R_drew); exact HO_77.out) hb)
                    have n4_ := Aside0.mk (Kd.R_below (by (with_reducible repeat first | apply Kd.R_alloc | apply Kd.R_drewN | apply Kd.R_drew); exact HO_200001.out) hb)
                    have n5_ := Aside0.mk (Kd.R_below (by (with_reducible repeat first | apply Kd.R_alloc | apply Kd.R_drewN | apply Kd.R_drew); exact HO_206001.out) hb)
                    have n6_ := Aside0.mk (blk_below (g := gb199) (o := .cells #[.string t194, .slice Ao9 t195.length co9] 55 (0, 0)) (by (with_reducible repeat first | apply blk_drewN | apply blk_drew | apply blk_alloc); exact BK199.out) hb)
                    have n7_ := Aside0.mk (blk_below (g := gb205) (o := .cells #[.string t200, .slice Ao14 t201.length co14] 55 (0, 0)) (by (with_reducible repeat first | apply blk_drewN | apply blk_drew | apply blk_alloc); exact BK205.out) hb)
                    have n8_ := Aside0.mk (below_step (by repeat first | (with_reducible first | exact HB.out | apply below_alloc | apply pw_below_drewN | apply below_drew1 | refine below_set ?_ GE199.out | refine below_set ?_ GE205.out) | exact HB.out) hb); clear HO_11 HO_17 HO_64 HO_77 HO_200001 HO_206001 BK199 BK205 HB; have HO_11 := n0_; have HO_17 := n1_; have HO_64 := n2_; have HO_77 := n3_; have HO_200001 := n4_; have HO_206001 := n5_; have BK199 := n6_; have BK205 := n7_; have HB := n8_; clear n0_ n1_ n2_ n3_ n4_ n5_ n6_ n7_ n8_
                    (try clear hb)
                    (try clear hb2)
                    (try clear hk)
                    (try clear hi)
                    refine hK.out _ _ ⟨(blk_cell BK199.out 0).trans rfl, (blk_cell BK199.out 1).trans rfl, (blk_cell BK205.out 0).trans rfl, (blk_cell BK205.out 1).trans rfl⟩ (fun hHeld => ?_)
                    clear hK K
                    refine norm_ (a' := ?_) ?_ ?_
                    rotate_left
                    ·show Act.put _ (some 97) _ = _
                     simp only [Act.put, ps_]
                     rfl
                    refine one_ (i := 7) (N := some 101) #[tt,tt,tt,tt,tt,tt,tt,tt,ff] rfl rfl (one_of HT_.out (by kernel_rfl)) (by decide) (fun K hK => ?_)
                    refine goes_ Try.func48 (by kernel_rfl) rfl #[.agg #[.string t200, .slice Ao14 t201.length co14], .string (rdOf ByteArray.empty x10_2 x66_3), .slice Ao70 x17_5.length co70] (by rfl) rfl rfl (by (try simp only [List.map_toArray, List.map_cons, List.map_nil]); first | done | rfl) ?_
                    with_reducible refine (impl_expr_holds.calls k5 t200 _ _ t201 (rdOf ByteArray.empty x10_2 x66_3) _ _ x17_5 t234 _ ?side1 ?side2 ?side3 ?side4 A63.out).mono ?_
                    (case side1 => repeat (first | exact (Kd.R_reads' HO_206001.out).2.2 | with_reducible first | apply Kd.C_alloc | apply Kd.C_drewN | apply Kd.C_drew))
                    (case side2 => exact (Kd.R_reads' HO_206001.out).2.1)
                    (case side3 => repeat (first | exact (Kd.R_reads' HO_17.out).2.2 | with_reducible first | apply Kd.C_alloc | apply Kd.C_drewN | apply Kd.C_drew))
                    (case side4 => exact (Kd.R_reads' HO_17.out).2.1)
                    rintro e w72 ⟨rfl, hb⟩
                    refine ⟨_, rfl, ?_⟩
                    have n0_ := Aside0.mk (Kd.R_below (by (with_reducible repeat first | apply Kd.R_alloc | apply Kd.R_drewN | apply Kd.R_drew); exact HO_11.out) hb)
                    have n1_ := Aside0.mk (Kd.R_below (by (with_reducible repeat first | apply Kd.R_alloc | apply Kd.R_drewN | apply Kd.R_drew); exact HO_17.out) hb)
                    have n2_ := Aside0.mk (Kd.R_below (by (with_reducible repeat first | apply Kd.R_alloc | apply Kd.R_drewN | apply Kd.R_drew); exact HO_64.out) hb)
                    have n3_ := Aside0.mk (Kd.R_below (by (with_reducible repeat first | apply Kd.R_alloc | apply Kd.R_drewN | apply Kd.R_drew); exact HO_77.out) hb)
                    have n4_ := Aside0.mk (Kd.R_below (by (with_reducible repeat first | apply Kd.R_alloc | apply Kd.R_drewN | apply Kd.R_drew); exact HO_200001.out) hb)
                    have n5_ := Aside0.mk (Kd.R_below (by (with_reducible repeat first | apply Kd.R_alloc | apply Kd.R_drewN | apply Kd.R_drew); exact HO_206001.out) hb)
                    have n6_ := Aside0.mk (blk_below (g := gb199) (o := .cells #[.string t194, .slice Ao9 t195.length co9] 55 (0, 0)) (by (with_reducible repeat first | apply blk_drewN | apply blk_drew | apply blk_alloc); exact BK199.out) hb)
                    have n7_ := Aside0.mk (blk_below (g := gb205) (o := .cells #[.string t200, .slice Ao14 t201.length co14] 55 (0, 0)) (by (with_reducible repeat first | apply blk_drewN | apply blk_drew | apply blk_alloc); exact BK205.out) hb)
                    have n8_ := Aside0.mk (below_step (by repeat first | (with_reducible first | exact HB.out | apply below_alloc | apply pw_below_drewN | apply below_drew1 | refine below_set ?_ GE199.out | refine below_set ?_ GE205.out) | exact HB.out) hb); clear HO_11 HO_17 HO_64 HO_77 HO_200001 HO_206001 BK199 BK205 HB; have HO_11 := n0_; have HO_17 := n1_; have HO_64 := n2_; have HO_77 := n3_; have HO_200001 := n4_; have HO_206001 := n5_; have BK199 := n6_; have BK205 := n7_; have HB := n8_; clear n0_ n1_ n2_ n3_ n4_ n5_ n6_ n7_ n8_
                    (try clear hb)
                    (try clear hb2)
                    (try clear hk)
                    (try clear hi)
                    refine hK.out _ _ ⟨(blk_cell BK199.out 0).trans rfl, (blk_cell BK199.out 1).trans rfl, (blk_cell BK205.out 0).trans rfl, (blk_cell BK205.out 1).trans rfl⟩ (fun hHeld => ?_)
                    clear hK K
                    refine norm_ (a' := ?_) ?_ ?_
                    rotate_left
                    ·show Act.put _ (some 101) _ = _
                     simp only [Act.put, ps_]
                     rfl
                    refine pu_ 8 (some 102) (v := ?_) (a' := ?_) #[tt,tt,tt,tt,tt,tt,tt,tt,tt] HT_.out rfl rfl (by kernel_rfl) (fun _ _ _ h => h) (Or.inl ⟨by rfl, ?_⟩) ?_ ?_
                    rotate_left
                    ·intro w'
                     go_simp
                     with_reducible rfl
                    rotate_left
                    ·simp only [Act.put, ps_]
                     rfl
                    refine done_ (done_of HT_.out (by kernel_rfl)) ?_
                    try go_wp2
                    go_roundg k5
                    case measure => have := HJ4.out; have := HK2.out; have := HK3.out; have := HK4.out; have := HK5.out; omega
                    case rel => exact ⟨(wrap64 (x73_4 + 1)), (by first | rfl | (simp; done) | (simp [*]; done)), H', ⟨by have := HJ4.out; have := HK2.out; have := HK3.out; have := HK4.out; have := HK5.out; omega⟩, ⟨by (with_reducible repeat first | apply Kd.R_alloc | apply Kd.R_drewN | apply Kd.R_drew); exact Kd.R_mono HO_11.out (fun _ hk => hk.2)⟩, ⟨by (with_reducible repeat first | apply Kd.R_alloc | apply Kd.R_drewN | apply Kd.R_drew); exact Kd.R_mono HO_64.out (fun _ hk => hk.1)⟩, ⟨by (with_reducible repeat first | apply Kd.R_alloc | apply Kd.R_drewN | apply Kd.R_drew); exact HO_200001.out⟩, ⟨by (with_reducible repeat first | apply Kd.R_alloc | apply Kd.R_drewN | apply Kd.R_drew); exact HO_206001.out⟩, ⟨by (with_reducible repeat first | apply blk_drewN | apply blk_drew | apply blk_alloc); exact BK199.out⟩, ⟨by (with_reducible repeat first | apply blk_drewN | apply blk_drew | apply blk_alloc); exact BK205.out⟩, ⟨by repeat (first | (with_reducible first | exact HB.out | apply below_alloc | apply pw_below_drewN | apply below_drew1 | refine below_set ?_ GE199.out | refine below_set ?_ GE205.out) | exact HB.out)⟩⟩
               ·rw [if_neg c51] at H
                have c51b0 : decide (x73_4 < ji49) = false := decide_eq_false c51
                clear c51; have H' := Aside0.mk H; clear H
                go_wp2
                go_roundg k4
                case measure => have := HJ4.out; have := HK2.out; have := HK3.out; have := HK4.out; omega
                case rel => exact ⟨(wrap64 (x66_3 + 1)), (by first | rfl | (simp; done) | (simp [*]; done)), H', ⟨by have := HJ4.out; have := HK2.out; have := HK3.out; have := HK4.out; omega⟩, ⟨by (with_reducible repeat first | apply Kd.R_alloc | apply Kd.R_drewN | apply Kd.R_drew); exact HO_11.out⟩, ⟨by (with_reducible repeat first | apply Kd.R_alloc | apply Kd.R_drewN | apply Kd.R_drew); exact HO_64.out⟩, ⟨by (with_reducible repeat first | apply Kd.R_alloc | apply Kd.R_drewN | apply Kd.R_drew); exact HO_200001.out⟩, ⟨by (with_reducible repeat first | apply Kd.R_alloc | apply Kd.R_drewN | apply Kd.R_drew); exact HO_206001.out⟩, ⟨by (with_reducible repeat first | apply blk_drewN | apply blk_drew | apply blk_alloc); exact BK199.out⟩, ⟨by (with_reducible repeat first | apply blk_drewN | apply blk_drew | apply blk_alloc); exact BK205.out⟩, ⟨by repeat (first | (with_reducible first | exact HB.out | apply below_alloc | apply pw_below_drewN | apply below_drew1 | refine below_set ?_ GE199.out | refine below_set ?_ GE205.out) | exact HB.out)⟩⟩
            ·rw [if_neg c48] at H
             exact absurd H (by simp)
           ·rw [if_neg c47] at H
            exact absurd H (by simp)
          ·rw [if_neg c46] at H
           have c46b0 : decide (x66_3 < (x10_2.length : Int)) = false := decide_eq_false c46
           clear c46
           obtain rfl := Option.some.inj H
           go_wp2
           go_ret
           exact ⟨by first | rfl | (simp [errW_none, errW_some] <;> rfl) | (simp [*, errW_none, errW_some] <;> rfl), by repeat (first | (with_reducible first | exact HB.out | apply below_alloc | apply pw_below_drewN | apply below_drew1 | refine below_set ?_ GE199.out | refine below_set ?_ GE205.out) | exact HB.out)⟩

end Go.Proofs.Ytdllommmccgleaa.Y
