-- WRITTEN by wip/ext.py
import Derived.Test.YtieghkchhjailaaSx0
import Derived.Test.YtieghkchhjailaaSx1
import Derived.Test.YtieghkchhjailaaSx2
import Derived.Test.YtieghkchhjailaaSx4
namespace Go.Proofs.Ytieghkchhjailaa.S
open Go.RowKit Go.Proofs.YtieghkchhjailaaW.PrintWords Go.Proofs.YtieghkchhjailaaW.PrintLast Go.Proofs.YtieghkchhjailaaW.PrintMore
attribute [local go_sem] max2_int min2_int max_two min_two max_three min_three max_four min_four   -- for this text's walks alone
set_option linter.unusedVariables false
set_option linter.unusedSimpArgs false

/-! ### spec_goodSuite: function 107 -/
mutual
def spec_goodSuite.l0 : Nat → List ByteArray → Int → List ByteArray → Int → List Int → Int → List (S133) → Option ((List (S133)) × (List (S137)) × Int)
 | 0, _, _, _, _, _, _, _ => none
 | k + 1, x3, x5, x6, x7, x1000, x1001, x273000 => if x7 < x5 then (if 0 ≤ x7 then (if x7 < (x3.length : Int) then ((spec_reader_pick.f k x1000 x1001 3).bind fun bt286 => ((spec_someNeeds.f k x1000 bt286.2 x6).bind fun bt288 => ((spec_reader_pick.f k x1000 bt288.2 6).bind fun bt292 => (spec_goodSuite.l1 k x3 x5 x6 x7 0 x1000 bt292.2 x273000 (rdOf ByteArray.empty x3 x7) bt286.1 bt288.1 (bt292.1 == 0))))) else (none)) else (none)) else ((spec_goodTests.f k x1000 x1001 x6).bind fun bt281 => (some (x273000, bt281.1, bt281.2)))
def spec_goodSuite.l1 : Nat → List ByteArray → Int → List ByteArray → Int → Int → List Int → Int → List (S133) → ByteArray → Int → List ByteArray → Bool → Option ((List (S133)) × (List (S137)) × Int)
 | 0, _, _, _, _, _, _, _, _, _, _, _, _ => none
 | k + 1, x3, x5, x6, x7, x9, x1000, x1001, x273000, x295000, x295001, x295002, x295003 => if x9 < (x295002.length : Int) then (if 0 ≤ x9 then ((spec_fixtureAt.f k x273000 (rdOf ByteArray.empty x295002 x9)).bind fun t296 => (if 0 ≤ t296 then (if t296 < (x273000.length : Int) then (spec_goodSuite.l1 k x3 x5 x6 x7 (wrap64 (x9 + 1)) x1000 x1001 x273000 x295000 (mn x295001 ((rd_T133 x273000 t296).f1)) x295002 x295003) else (none)) else (none))) else (none)) else (if x273000.length < 2513169434916 then (if x6.length < 8796093022208 then (spec_goodSuite.l0 k x3 x5 (x6 ++ [x295000]) (wrap64 (x7 + 1)) x1000 x1001 (x273000 ++ [(⟨x295000, x295001, x295002, x295003⟩ : S133)])) else (none)) else (none))
end
def spec_goodSuite.f (k : Nat) (s0_0 : List Int) (s0_1 : Int) : Option ((List (S133)) × (List (S137)) × Int) := (spec_reader_one.f k s0_0 s0_1 (([3, 4, 2, 5, 1, 0, 6] : List Int))).bind fun bt276 => (spec_goodSuite.l0 k (([(⟨#[100, 98]⟩ : ByteArray), (⟨#[116, 109, 112]⟩ : ByteArray), (⟨#[110, 101, 116]⟩ : ByteArray), (⟨#[117, 115, 101, 114]⟩ : ByteArray), (⟨#[108, 111, 103]⟩ : ByteArray), (⟨#[97, 112, 112]⟩ : ByteArray)] : List ByteArray)) bt276.1 (([] : List ByteArray)) 0 s0_0 bt276.2 ([] : List (S133)))
theorem spec_goodSuite.mono_l : ∀ k, (∀ y0 y1 y2 y3 y4 y5 y6, LeO (spec_goodSuite.l0 k y0 y1 y2 y3 y4 y5 y6) (spec_goodSuite.l0 (k + 1) y0 y1 y2 y3 y4 y5 y6)) ∧ (∀ y0 y1 y2 y3 y4 y5 y6 y7 y8 y9 y10 y11, LeO (spec_goodSuite.l1 k y0 y1 y2 y3 y4 y5 y6 y7 y8 y9 y10 y11) (spec_goodSuite.l1 (k + 1) y0 y1 y2 y3 y4 y5 y6 y7 y8 y9 y10 y11))
 | 0 => ⟨fun _ _ _ _ _ _ _ r h => by simp [spec_goodSuite.l0] at h, fun _ _ _ _ _ _ _ _ _ _ _ _ r h => by simp [spec_goodSuite.l1] at h⟩
 | k + 1 => by
  obtain ⟨ih0, ih1⟩ := spec_goodSuite.mono_l k
  refine ⟨?_, ?_⟩
  ·intro y0 y1 y2 y3 y4 y5 y6
   unfold spec_goodSuite.l0
   repeat' first | (with_reducible first | exact ih0 _ _ _ _ _ _ _ | exact ih1 _ _ _ _ _ _ _ _ _ _ _ _ | exact spec_fixtureAt.mono _ _ _ | exact spec_goodTests.mono _ _ _ _ | exact spec_reader_one.mono _ _ _ _ | exact spec_reader_pick.mono _ _ _ _ | exact spec_someNeeds.mono _ _ _ _ | exact le1_ | exact le2_ | apply LeO.ite | refine LeO.bind ?_ fun _ => ?_) | apply LeO.ite | refine LeO.bind ?_ fun _ => ?_
  ·intro y0 y1 y2 y3 y4 y5 y6 y7 y8 y9 y10 y11
   unfold spec_goodSuite.l1
   repeat' first | (with_reducible first | exact ih0 _ _ _ _ _ _ _ | exact ih1 _ _ _ _ _ _ _ _ _ _ _ _ | exact spec_fixtureAt.mono _ _ _ | exact spec_goodTests.mono _ _ _ _ | exact spec_reader_one.mono _ _ _ _ | exact spec_reader_pick.mono _ _ _ _ | exact spec_someNeeds.mono _ _ _ _ | exact le1_ | exact le2_ | apply LeO.ite | refine LeO.bind ?_ fun _ => ?_) | apply LeO.ite | refine LeO.bind ?_ fun _ => ?_
theorem spec_goodSuite.mono : ∀ a0 a1 k, LeO (spec_goodSuite.f k a0 a1) (spec_goodSuite.f (k + 1) a0 a1) := by
 intro a0 a1 k
 obtain ⟨ih0, ih1⟩ := spec_goodSuite.mono_l k
 unfold spec_goodSuite.f
 repeat' first | (with_reducible first | exact ih0 _ _ _ _ _ _ _ | exact ih1 _ _ _ _ _ _ _ _ _ _ _ _ | exact spec_fixtureAt.mono _ _ _ | exact spec_goodTests.mono _ _ _ _ | exact spec_reader_one.mono _ _ _ _ | exact spec_reader_pick.mono _ _ _ _ | exact spec_someNeeds.mono _ _ _ _ | exact le1_ | exact le2_ | apply LeO.ite | refine LeO.bind ?_ fun _ => ?_) | apply LeO.ite | refine LeO.bind ?_ fun _ => ?_
def spec_goodSuite.T8 : Bool × List (List Nat × List Nat) := (true, [([], []), ([], []), ([0, 1], [0, 1]), ([2], [2]), ([], []), ([4], [4]), ([], []), ([], []), ([6, 7, 5], [6, 7]), ([], []), ([9, 8], [9]), ([10], [10]), ([3, 5, 8, 11], [3, 5, 8, 11]), ([], []), ([13, 12, 10, 0, 1, 2, 3, 4, 5, 6, 7, 8, 9, 10, 11, 12, 13], [12, 13])])
def spec_goodSuite.B8 : List Nat := [0, 0, 3, 7, 0, 16, 0, 0, 240, 0, 1008, 2032, 4095, 0, 16383]
theorem spec_goodSuite.tab8 : rtab .any (opsOf Try.f107 8) = spec_goodSuite.T8 := by kernel_rfl
theorem spec_goodSuite.bits8 : waitsOk spec_goodSuite.T8.2 spec_goodSuite.B8 = true := by kernel_rfl
def spec_goodSuite.T12 : Bool × List (List Nat × List Nat) := (true, [([], []), ([0], [0]), ([], []), ([2], [2]), ([], []), ([3, 4], [3, 4]), ([5], [5]), ([1, 6], [1, 6]), ([7, 7, 0, 1, 2, 3, 4, 5, 6, 7], [7])])
def spec_goodSuite.B12 : List Nat := [0, 1, 0, 4, 0, 28, 60, 127, 255]
theorem spec_goodSuite.tab12 : rtab .any (opsOf Try.f107 12) = spec_goodSuite.T12 := by kernel_rfl
theorem spec_goodSuite.bits12 : waitsOk spec_goodSuite.T12.2 spec_goodSuite.B12 = true := by kernel_rfl
def spec_goodSuite.T13 : Bool × List (List Nat × List Nat) := (true, [([], []), ([0], [0]), ([], []), ([2], [2]), ([], []), ([3, 4], [3, 4]), ([5], [5]), ([6], [6]), ([1, 7], [1, 7]), ([0, 1, 2, 3, 4, 5, 6, 7, 8], []), ([9, 8, 0, 1, 2, 3, 4, 5, 6, 7, 8], [8, 9])])
def spec_goodSuite.B13 : List Nat := [0, 1, 0, 4, 0, 28, 60, 124, 255, 511, 1023]
theorem spec_goodSuite.tab13 : rtab .any (opsOf Try.f107 13) = spec_goodSuite.T13 := by kernel_rfl
theorem spec_goodSuite.bits13 : waitsOk spec_goodSuite.T13.2 spec_goodSuite.B13 = true := by kernel_rfl
set_option maxHeartbeats 8000000 in
set_option maxRecDepth 100000 in
theorem spec_goodSuite.calls (k : Nat) (g : Nat) (s0_0 : List Int) (s0_1 : Int) (r1 : List (S133)) (r2 : List (S137)) (r3 : Int) (w0 w : World) (hI : IsS120 w0 w g s0_0 s0_1) (hB : Below w0.heap.size w0 w) (h : spec_goodSuite.f k s0_0 s0_1 = some (r1, r2, r3)) :
  Calls Try.prog 107 #[.pointer (some ⟨g, 0, none⟩)] w fun e w' => ∃ v0_ v1_ : Value, e = .returned (.agg #[v0_, v1_]) ∧ Kd.S k133 133 w' w.heap.size (fun _ => True) v0_ r1 ∧ Kd.S k137 137 w' w.heap.size (fun _ => True) v1_ r2 ∧ IsS120 w0 w' g s0_0 r3 ∧ Below w0.heap.size w0 w' ∧ KeepBut w w' g none := by
 have hu108 := Try.underlying108; have hu133 := Try.underlying133; have HI0 := zA hI; have HK := zA zz8; have HL := zA hB.size; clear hI; have HW0 := zA hB.size; have HB := zA hB; clear hB
 have H : ((spec_reader_one.f k s0_0 s0_1 (([3, 4, 2, 5, 1, 0, 6] : List Int))).bind fun bt276 => (spec_goodSuite.l0 k (([(⟨#[100, 98]⟩ : ByteArray), (⟨#[116, 109, 112]⟩ : ByteArray), (⟨#[110, 101, 116]⟩ : ByteArray), (⟨#[117, 115, 101, 114]⟩ : ByteArray), (⟨#[108, 111, 103]⟩ : ByteArray), (⟨#[97, 112, 112]⟩ : ByteArray)] : List ByteArray)) bt276.1 (([] : List ByteArray)) 0 s0_0 bt276.2 ([] : List (S133)))) = some (r1, r2, r3) := h
 clear h
 obtain ⟨y269, hy269⟩ : ∃ y_ : List ByteArray, y_ = (([(⟨#[100, 98]⟩ : ByteArray), (⟨#[116, 109, 112]⟩ : ByteArray), (⟨#[110, 101, 116]⟩ : ByteArray), (⟨#[117, 115, 101, 114]⟩ : ByteArray), (⟨#[108, 111, 103]⟩ : ByteArray), (⟨#[97, 112, 112]⟩ : ByteArray)] : List ByteArray)) := ⟨_, rfl⟩
 replace H : ((spec_reader_one.f k s0_0 s0_1 (([3, 4, 2, 5, 1, 0, 6] : List Int))).bind fun bt276 => (spec_goodSuite.l0 k y269 bt276.1 (([] : List ByteArray)) 0 s0_0 bt276.2 ([] : List (S133)))) = some (r1, r2, r3) := (zz24 hy269)
 have Ny269 := zA hy269; clear hy269
 obtain ⟨y273, hy273⟩ : ∃ y_ : List Int, y_ = (([3, 4, 2, 5, 1, 0, 6] : List Int)) := ⟨_, rfl⟩
 replace H : ((spec_reader_one.f k s0_0 s0_1 y273).bind fun bt276 => (spec_goodSuite.l0 k y269 bt276.1 (([] : List ByteArray)) 0 s0_0 bt276.2 ([] : List (S133)))) = some (r1, r2, r3) := (zz24 hy273)
 have Ny273 := zA hy273; clear hy273
 obtain ⟨⟨t276, t277⟩, A2, H⟩ := bs_ H
 (try dsimp only at H)
 obtain ⟨y278, hy278⟩ : ∃ y_ : List ByteArray, y_ = (([] : List ByteArray)) := ⟨_, rfl⟩
 replace H : (spec_goodSuite.l0 k y269 t276 y278 0 s0_0 t277 ([] : List (S133))) = some (r1, r2, r3) := (zz24 hy278)
 have Ny278 := zA hy278; clear hy278; have H' := zA H; clear H
 go_enter Try.func107, Try.ntmps107
 go_wp2_with (first | ((with_reducible refine gate_dst (N := 2) rfl ?_); refine bx_ 2 #[.slice none 0 0, .slice none 0 0] 108 ?_; intro gb268 hg w3 hbox hb; replace HB := zA (zz30 HI0.out); have BK268 := zA (hbox); have GW268 := zA ((zz67 : w.heap.size ≤ gb268)); have GE268 := zA ((Nat.le_trans HW0.out (zz67 : w.heap.size ≤ gb268) : w0.heap.size ≤ gb268)); replace HK := zA zz29; have NB0_268 := zA (((zz68 HI0.out) : g ≠ gb268)); have NB268_0 := zA (((zz69 HI0.out) : gb268 ≠ g)); replace HI0 := zA (zz31 HI0.out); clear hb hbox hg) | ((with_reducible refine gate_dst (N := 11) rfl ?_); refine Kd.R_lit Kd.string _ 9 ?hg (N := 11) ?hd (xs := ([(⟨#[100, 98]⟩ : ByteArray), (⟨#[116, 109, 112]⟩ : ByteArray), (⟨#[110, 101, 116]⟩ : ByteArray), (⟨#[117, 115, 101, 114]⟩ : ByteArray), (⟨#[108, 111, 103]⟩ : ByteArray), (⟨#[97, 112, 112]⟩ : ByteArray)] : List ByteArray)) (inner := [.string (⟨#[100, 98]⟩ : ByteArray), .string (⟨#[116, 109, 112]⟩ : ByteArray), .string (⟨#[110, 101, 116]⟩ : ByteArray), .string (⟨#[117, 115, 101, 114]⟩ : ByteArray), .string (⟨#[108, 111, 103]⟩ : ByteArray), .string (⟨#[97, 112, 112]⟩ : ByteArray)]) (ok := fun _ => True) (okp := fun _ => True) ?hr ?hp (fun _ hk => hk) trivial (Below.refl _ _) (Nat.le_refl _) (by simp) ?_; (case hd => rfl); (case hg => rfl); (case hr => exact zz32); (case hp => exact (Reps.one (show Kd.M Kd.string _ _ _ (⟨#[100, 98]⟩ : ByteArray) [.string (⟨#[100, 98]⟩ : ByteArray)] from rfl) (Reps.one (show Kd.M Kd.string _ _ _ (⟨#[116, 109, 112]⟩ : ByteArray) [.string (⟨#[116, 109, 112]⟩ : ByteArray)] from rfl) (Reps.one (show Kd.M Kd.string _ _ _ (⟨#[110, 101, 116]⟩ : ByteArray) [.string (⟨#[110, 101, 116]⟩ : ByteArray)] from rfl) (Reps.one (show Kd.M Kd.string _ _ _ (⟨#[117, 115, 101, 114]⟩ : ByteArray) [.string (⟨#[117, 115, 101, 114]⟩ : ByteArray)] from rfl) (Reps.one (show Kd.M Kd.string _ _ _ (⟨#[108, 111, 103]⟩ : ByteArray) [.string (⟨#[108, 111, 103]⟩ : ByteArray)] from rfl) (Reps.one (show Kd.M Kd.string _ _ _ (⟨#[97, 112, 112]⟩ : ByteArray) [.string (⟨#[97, 112, 112]⟩ : ByteArray)] from rfl) (Reps.none _ _)))))))); intro v270 w4 ho5 hb hg_ hnew_; clear hg_ hnew_; replace ho5 := ny_ Ny269.out ho5; have HO271 := zA (Kd.R_lower ho5 (keep_size (w := w) (g := g) (row := none) (zz74 GW268.out))); replace BK268 := zA (zz78 BK268.out); replace HK := zA (zz71 GW268.out); replace HB := zA (zz72 HI0.out GE268.out); replace HI0 := zA (zz73 HI0.out NB0_268.out); clear hb ho5) | ((with_reducible refine gate_dst (N := 4) rfl ?_); refine bx_ 4 #[.slice none 0 0, .slice none 0 0] 108 ?_; intro gb272 hg w6 hbox hb; replace HO271 := zA (zz33 HO271.out); replace HB := zA (zz72 HI0.out GE268.out); have BK272 := zA (hbox); have GW272 := zA (((zz79 GW268.out) : w.heap.size ≤ gb272)); have GE272 := zA ((Nat.le_trans HW0.out ((zz79 GW268.out) : w.heap.size ≤ gb272) : w0.heap.size ≤ gb272)); replace HK := zA (zz71 GW268.out); have NB268_272 := zA (((zz80 BK268.out) : gb268 ≠ gb272)); have NB272_268 := zA (((zz81 BK268.out) : gb272 ≠ gb268)); replace BK268 := zA (zz78 BK268.out); have NB0_272 := zA (((zz82 HI0.out NB0_268.out) : g ≠ gb272)); have NB272_0 := zA (((zz83 HI0.out NB0_268.out) : gb272 ≠ g)); replace HI0 := zA (zz73 HI0.out NB0_268.out); clear hb hbox hg; have hnb7 := NB272_268.out; have hnc7 := NB268_272.out; have hnb8 := NB272_0.out; have hnc8 := NB0_272.out; obtain ⟨hcz9_0, hcz9_1, hfz9_0, hfz9_1⟩ := bk2_ BK272.out) | ((with_reducible refine gate_dst (N := 14) rfl ?_); refine Kd.R_lit (Kd.int .i64) _ 3 ?hg (N := 14) ?hd (xs := ([3, 4, 2, 5, 1, 0, 6] : List Int)) (inner := [.int .i64 3, .int .i64 4, .int .i64 2, .int .i64 5, .int .i64 1, .int .i64 0, .int .i64 6]) (ok := fun _ => True) (okp := fun _ => True) ?hr ?hp (fun _ hk => hk) trivial (Below.refl _ _) (Nat.le_refl _) (by simp) ?_; (case hd => rfl); (case hg => rfl); (case hr => exact zz32); (case hp => exact (Reps.one (show Kd.M (Kd.int .i64) _ _ _ 3 [.int .i64 3] from rfl) (Reps.one (show Kd.M (Kd.int .i64) _ _ _ 4 [.int .i64 4] from rfl) (Reps.one (show Kd.M (Kd.int .i64) _ _ _ 2 [.int .i64 2] from rfl) (Reps.one (show Kd.M (Kd.int .i64) _ _ _ 5 [.int .i64 5] from rfl) (Reps.one (show Kd.M (Kd.int .i64) _ _ _ 1 [.int .i64 1] from rfl) (Reps.one (show Kd.M (Kd.int .i64) _ _ _ 0 [.int .i64 0] from rfl) (Reps.one (show Kd.M (Kd.int .i64) _ _ _ 6 [.int .i64 6] from rfl) (Reps.none _ _))))))))); intro v274 w10 ho11 hb hg_ hnew_; clear hg_ hnew_; replace ho11 := ny_ Ny273.out ho11; replace HO271 := zA (Kd.R_below (by (with_reducible repeat first | apply Kd.R_alloc | apply Kd.R_drewN | apply Kd.R_drew); exact (Kd.R_mono (Kd.R_far (p := ⟨gb272, 1, none⟩) (Kd.R_far (p := ⟨gb272, 0, none⟩) (Kd.R_types HO271.out BK272.out (by decide)) (fun _ hk => hk.2) (.slice none 0 0)) (fun _ hk => hk.2) (.slice none 0 0)) (fun _ h_ => h_.1))) hb); have HO275 := zA (Kd.R_lower ho11 (keep_size (w := w) (g := g) (row := none) (zz84 GW268.out GW272.out))); replace BK268 := zA (blk_below (g := gb268) (o := .cells #[.slice none 0 0, .slice none 0 0] 108 (0, 0)) (zz85 NB268_272.out BK268.out) hb); replace BK272 := zA (blk_below (g := gb272) (o := .cells #[.slice none 0 0, .slice none 0 0] 108 (0, 0)) (by (with_reducible repeat first | apply blk_drewN | apply blk_drew | apply blk_alloc); refine blk_put (cs := #[.slice none 0 0, .slice none 0 0]) ?_ 1 _ rfl; (with_reducible repeat first | apply blk_drewN | apply blk_drew | apply blk_alloc); refine blk_put (cs := #[.slice none 0 0, .slice none 0 0]) ?_ 0 _ rfl; (with_reducible repeat first | apply blk_drewN | apply blk_drew | apply blk_alloc); exact BK272.out) hb); replace HK := zA (zz86 GW268.out GW272.out); replace HB := zA (zz87 HI0.out GE268.out GE272.out); replace HI0 := zA (IsS120.below (show IsS120 w0 ((w6.setCell ⟨gb272, 0, none⟩ (.slice none 0 0)).setCell ⟨gb272, 1, none⟩ (.slice none 0 0)) g s0_0 s0_1 from by repeat (first | (with_reducible first | exact HI0.out | apply IsS120.alloc | apply IsS120.drewN | apply IsS120.drew | apply IsS120.set_1 | refine IsS120.far ?_ NB0_268.out _ | refine IsS120.far ?_ NB0_272.out _) | exact HI0.out)) hb); clear hb ho11; obtain ⟨Ao12, co12, eo12⟩ := Kd.R_slice HO275.out; subst eo12) | ((with_reducible refine gate_callee (f := 95) rfl ?_); refine goesL_ (some 15) rfl rfl Try.func95 (by kernel_rfl) rfl #[.pointer (some ⟨g, 0, none⟩), .slice Ao12 y273.length co12] rfl zz17 ?_; (with_reducible refine (spec_reader_one.calls k g s0_0 s0_1 _ _ y273 t276 t277 w0 _ ?side1 ?side2 ?side3 ?side4 ?side5 A2.out).mono ?_); (case side1 => exact (zz88 HI0.out NB0_268.out NB0_272.out)); (case side2 => exact (zz89 HI0.out GE268.out GE272.out)); (case side3 => exact (zz20 HO275.out)); (case side4 => exact (zz21 HO275.out)); (case side5 => exact (zz34 HI0.out HO275.out)); rintro e w13 ⟨rfl, hi, hb, hk⟩; refine ⟨_, rfl, ?_⟩; replace BK268 := zA (zz90 BK268.out NB268_0.out); replace HO271 := zA (zz91 HI0.out NB0_268.out NB0_272.out HO271.out); replace BK272 := zA (KeepBut.blk hk (g' := gb272) (o := .cells #[.slice none 0 0, .slice none 0 0] 108 (0, 0)) (zz6 BK272.out) NB272_0.out (by simp)); replace HO275 := zA (zz91 HI0.out NB0_268.out NB0_272.out HO275.out); replace HK := zA (zz92 GW268.out GW272.out); replace HB := zA (hb); replace HI0 := zA (hi); (try clear hb); (try clear hk); (try clear hi)) | ((with_reducible refine gate_dst (N := 16) rfl ?_); refine rl_ Kd.string 9 16 ?_; intro v279 w14 ho15 hb; replace ho15 := ny_ Ny278.out ho15; replace HO275 := zA (zz33 HO275.out); have HO280 := zA (Kd.R_lower (Kd.R_new' ho15 (Kd.R_lt (zz22 HO271.out))) (keep_size (w := w) (g := g) (row := none) (zz84 GW268.out GW272.out))); replace HO271 := zA (zz44 HO271.out ho15); replace BK268 := zA (zz78 BK268.out); replace BK272 := zA (blk_below (g := gb272) (o := .cells #[.slice none 0 0, .slice none 0 0] 108 (0, 0)) (zz6 BK272.out) hb); replace HK := zA (zz86 GW268.out GW272.out); replace HB := zA (zz87 HI0.out GE268.out GE272.out); replace HI0 := zA (zz93 HI0.out NB0_268.out NB0_272.out); clear hb ho15))
 go_loopg [6, 7] k (fun kq v6 v7 w' => ∃ (x6_1 : List ByteArray) (x7_1 : Int) (x1001_1 : Int) (x273000_1 : List (S133)) (u273000 : Value), v7 = .int .i64 x7_1 ∧ Aside0 (spec_goodSuite.l0 kq y269 t276 x6_1 x7_1 s0_0 x1001_1 x273000_1 = some (r1, r2, r3)) ∧ Aside0 (kq ≤ k) ∧ Aside0 (Kd.R Kd.string 9 w' w.heap.size (fun k_ => some k_ ≠ (v6 : Value).ownBlock) v270 y269) ∧ Aside0 (Kd.R Kd.string 9 w' w.heap.size (fun k_ => some k_ ≠ (v270 : Value).ownBlock) v6 x6_1) ∧ Aside0 (Kd.S k133 133 w' w.heap.size (fun k_ => some k_ ≠ (v270 : Value).ownBlock ∧ some k_ ≠ (v6 : Value).ownBlock) u273000 x273000_1) ∧ Aside0 (w'.heap[gb268]? = some (.cells #[(.slice none 0 0), (.slice none 0 0)] 108 (0, 0))) ∧ Aside0 (w'.heap[gb272]? = some (.cells #[u273000, (.slice none 0 0)] 108 (0, 0))) ∧ Aside0 (IsS120 w0 w' g s0_0 x1001_1) ∧ Aside0 (KeepBut w w' g none) ∧ Aside0 (Below w0.heap.size w0 w'))
 case atStart => exact ⟨(y278), (0), (t277), (([] : List (S133))), (.slice none 0 0), zz9, H', ⟨Nat.le_refl _⟩, ⟨(zz94 HO271.out)⟩, ⟨(zz94 HO280.out)⟩, ⟨by first | exact Kd.S_nil _ _ _ _ _ | exact Kd.N_nil _ _ _ _ _ | exact Kd.V_nil _ _ _ _ _ | exact Kd.Q_nil _ _ _ _ _ | exact Kd.R_nil _ _ _ _ _⟩, ⟨(zz6 BK268.out)⟩, ⟨(zz6 BK272.out)⟩, ⟨(zz88 HI0.out NB0_268.out NB0_272.out)⟩, ⟨(zz95 GW268.out GW272.out)⟩, ⟨(zz89 HI0.out GE268.out GE272.out)⟩⟩
 case round =>
  clear H'; try clear c1; try clear p2; try clear c7; try clear c8; try clear c9; try clear c10; try clear hcz9_0; try clear hcz9_1; try clear hfz9_0; try clear hfz9_1
  obtain ⟨x6_1, x7_1, x1001_1, x273000_1, u273000, rfl, HA, HK1, HO_3, HO_6, HO_273000, BK268, BK272, HI0, HK, HB⟩ := hrel
  cases gk with
  | zero => exact absurd HA.out (by simp [spec_goodSuite.l0])
  | succ k1 =>
   have H := HA.out; clear HA
   simp only [spec_goodSuite.l0] at H
   rcases iu_ H with ⟨c16b0, H⟩ | ⟨c16b0, H⟩
   ·obtain ⟨c17b0, H⟩ := it_ H
    obtain ⟨c18b0, H⟩ := it_ H
    obtain ⟨⟨t286, t287⟩, A19, H⟩ := bs_ H
    (try dsimp only at H)
    obtain ⟨⟨t288, t291⟩, A20, H⟩ := bs_ H
    (try dsimp only at H)
    replace H := Option.bind_eq_some_iff.mp H
    obtain ⟨⟨t292, t293⟩, A210, H⟩ := H
    (try dsimp only at H)
    have A21 := zA A210; clear A210; have H' := zA H; clear H
    obtain ⟨Ao22, co22, eo22⟩ := Kd.R_slice HO_6.out
    subst eo22; try go_wp2; replace HO_3 := zA (Kd.R_drew HO_3.out); replace HO_6 := zA (Kd.R_drew HO_6.out); replace HO_273000 := zA (Kd.S_drew HO_273000.out); replace BK268 := zA (blk_drew BK268.out); replace BK272 := zA (blk_drew BK272.out); replace HI0 := zA (IsS120.drew HI0.out); replace HK := zA zz96; replace HB := zA zz40
    obtain ⟨Ao24, co24, eo24⟩ := Kd.R_slice HO_3.out
    (first | subst eo24 | (injection eo24 with f1_ f2_ f3_; have f4_ := f1_.symm; have f5_ := f3_.symm; clear f1_ f2_ f3_; subst f4_; subst f5_))
    have p285 : 0 ≤ (x7_1 : Int) := dz_
    have q285 : x7_1 < (y269.length : Int) := dz_
    obtain ⟨ad285, e285, hx285_0⟩ := Kd.at_string (Kd.R_reads' HO_3.out).2.2 x7_1 p285 q285
    cases e285
    replace p285 := eq_true p285
    replace q285 := eq_true q285
    refine start_ (n := 15) (S := fun w' => w'.cell? (ad285.add (x7_1).toNat) = some (.string (rdOf ByteArray.empty y269 x7_1))) (ds := []) #[ff,ff,ff,ff,ff,ff,ff,ff,ff,ff,ff,ff,ff,ff,ff] (by kernel_rfl) rfl rfl (hx285_0) (fun hHeld => ?_); refine with_tabW spec_goodSuite.tab8 spec_goodSuite.bits8 (fun HT_ HW_ => ?_)
    generalize wr.drew = w23 at HO_3 HO_6 HO_273000 BK268 BK272 HI0 HK HB hx285_0 hHeld ⊢
    refine qp_ 0 22 ?_
    refine qp_ 1 23 ?_
    refine qp_ 2 24 ?_
    refine qp_ 4 26 ?_
    refine qp_ 6 28 ?_
    refine qp_ 7 29 ?_
    refine qp_ 9 31 ?_
    refine qt_ 3 25 ?_
    refine join_ (σ := Value × Nat) 1 #[tt,tt,tt,tt,tt,tt,tt,tt,tt,tt,tt,tt,tt,tt,ff] (fun s_ => [(27, .int .i64 t286), (30, s_.1), (32, .int .i64 t292), (8, .pointer (some ⟨s_.2, 0, none⟩)), (33, .bool (t292 == 0)), (34, .agg #[.string (rdOf ByteArray.empty y269 x7_1), .int .i64 t286, s_.1, .bool (t292 == 0)])]) (fun s_ w' => (w'.cell? (ad285.add (x7_1).toNat) = some (.string (rdOf ByteArray.empty y269 x7_1))) ∧ (Kd.R Kd.string 9 w' w.heap.size (fun k_ => some k_ ≠ (.slice (some ad285) y269.length co24 : Value).ownBlock ∧ some k_ ≠ (.slice Ao22 x6_1.length co22 : Value).ownBlock) s_.1 t288) ∧ (Kd.S k133 133 w' w.heap.size (fun k_ => some k_ ≠ (s_.1 : Value).ownBlock ∧ some k_ ≠ (.slice (some ad285) y269.length co24 : Value).ownBlock ∧ some k_ ≠ (.slice Ao22 x6_1.length co22 : Value).ownBlock ∧ k_ ≠ s_.2) u273000 x273000_1) ∧ (Kd.R Kd.string 9 w' w.heap.size (fun k_ => some k_ ≠ (s_.1 : Value).ownBlock ∧ some k_ ≠ (.slice Ao22 x6_1.length co22 : Value).ownBlock) (.slice (some ad285) y269.length co24) y269) ∧ (Kd.R Kd.string 9 w' w.heap.size (fun k_ => some k_ ≠ (s_.1 : Value).ownBlock ∧ some k_ ≠ (.slice (some ad285) y269.length co24 : Value).ownBlock) (.slice Ao22 x6_1.length co22) x6_1) ∧ (w'.heap[gb268]? = some (.cells #[.slice none 0 0, .slice none 0 0] 108 (0, 0))) ∧ (w'.heap[gb272]? = some (.cells #[u273000, .slice none 0 0] 108 (0, 0))) ∧ (w'.heap[s_.2]? = some (.cells #[.string (⟨#[]⟩ : ByteArray), .int .i64 0, .slice none 0 0, .bool false] 133 (0, 0))) ∧ (w.heap.size ≤ s_.2) ∧ (w0.heap.size ≤ s_.2) ∧ (g ≠ s_.2) ∧ (s_.2 ≠ g) ∧ (gb268 ≠ s_.2) ∧ (s_.2 ≠ gb268) ∧ (gb272 ≠ s_.2) ∧ (s_.2 ≠ gb272) ∧ (IsS120 w0 w' g s0_0 t293) ∧ (KeepBut w w' g none) ∧ (Below w0.heap.size w0 w')) ?_ ?_
    rotate_left
    ·intro hCont
     refine two_ (i := 5) (j := 13) (Ni := some 27) (Nj := some 8) #[tt,tt,tt,tt,tt,tt,tt,tt,ff,tt,ff,ff,ff,ff,ff] #[tt,tt,tt,tt,tt,ff,tt,tt,ff,tt,ff,ff,ff,tt,ff] rfl rfl rfl rfl (two_of HT_.out (by kernel_rfl)) (by decide) (by decide) (fun K hK => ?_) (fun K hK => ?_)
     ·skip
      refine goes_ Try.func85 (by kernel_rfl) rfl #[.pointer (some ⟨g, 0, none⟩), .int .i64 3] (by rfl) rfl rfl zz17 ?_
      with_reducible refine (spec_reader_pick.calls k1 g s0_0 x1001_1 3 t286 t287 w0 _ ?side1 ?side2 A19.out).mono ?_
      (case side1 => exact (zz88 HI0.out NB0_268.out NB0_272.out))
      (case side2 => exact (zz89 HI0.out GE268.out GE272.out))
      rintro e w25 ⟨rfl, hi, hb, hk⟩
      have HS0_ := keep_cell hk (hHeld) (zz97 HI0.out HO_3.out)
      refine ⟨_, rfl, ?_⟩
      replace HO_3 := zA (zz91 HI0.out NB0_268.out NB0_272.out HO_3.out)
      replace HO_6 := zA (zz91 HI0.out NB0_268.out NB0_272.out HO_6.out)
      replace HO_273000 := zA (Kd.S_mono (Kd.S_keep (IsS120.apartS (show IsS120 w0 _ g s0_0 _ from by repeat (first | (with_reducible first | exact HI0.out | apply IsS120.alloc | apply IsS120.drewN | apply IsS120.drew | apply IsS120.set_1 | refine IsS120.far ?_ NB0_268.out _ | refine IsS120.far ?_ NB0_272.out _) | exact HI0.out)) (zz63 HO_273000.out) (by decide)) hk (fun _ h => h.2)) (fun _ h => h.1))
      replace BK268 := zA (zz90 BK268.out NB268_0.out)
      replace BK272 := zA (zz98 BK272.out NB272_0.out)
      replace HK := zA (zz92 GW268.out GW272.out)
      replace HB := zA (hb)
      replace HI0 := zA (hi)
      (try clear hb)
      (try clear hb2)
      (try clear hk)
      (try clear hi)
      refine hK.out _ _ (HS0_) (fun hHeld => ?_)
      clear hK K
      refine qn_ 27 ?_
      refine two_ (i := 8) (j := 13) (Ni := some 30) (Nj := some 8) #[tt,tt,tt,tt,tt,tt,tt,tt,tt,tt,ff,ff,ff,ff,ff] #[tt,tt,tt,tt,tt,tt,tt,tt,ff,tt,ff,ff,ff,tt,ff] rfl rfl rfl rfl (two_of HT_.out (by kernel_rfl)) (by decide) (by decide) (fun K hK => ?_) (fun K hK => ?_)
      ·skip
       refine goes_ Try.func119 (by kernel_rfl) rfl #[.pointer (some ⟨g, 0, none⟩), .slice Ao22 x6_1.length co22] (by rfl) rfl rfl zz17 ?_
       with_reducible refine (spec_someNeeds.calls k1 g s0_0 t287 _ _ x6_1 t288 t291 w0 _ ?side1 ?side2 ?side3 ?side4 ?side5 A20.out).mono ?_
       (case side1 => exact (zz88 HI0.out NB0_268.out NB0_272.out))
       (case side2 => exact (zz89 HI0.out GE268.out GE272.out))
       (case side3 => exact (zz20 HO_6.out))
       (case side4 => exact (zz21 HO_6.out))
       (case side5 => exact (zz34 HI0.out HO_6.out))
       rintro e w26 ⟨v289, rfl, ho0, hi, hb, hk⟩
       have HS0_ := keep_cell hk (hHeld) (zz97 HI0.out HO_3.out)
       refine ⟨_, rfl, ?_⟩
       replace HO_273000 := zA (Kd.S_mono (Kd.S_told (Kd.S_oldK (IsS120.apartS (show IsS120 w0 _ g s0_0 _ from by repeat (first | (with_reducible first | exact HI0.out | apply IsS120.alloc | apply IsS120.drewN | apply IsS120.drew | apply IsS120.set_1 | refine IsS120.far ?_ NB0_268.out _ | refine IsS120.far ?_ NB0_272.out _) | exact HI0.out)) (zz63 HO_273000.out) (by decide)) hk) (Kd.R_base ho0)) (fun _ h_ => h_.1))
       replace BK268 := zA (zz90 BK268.out NB268_0.out)
       replace BK272 := zA (zz98 BK272.out NB272_0.out)
       have HO290 := zA (Kd.R_lower (Kd.R_new' (Kd.R_new' ho0 (Kd.R_lt (zz22 HO_3.out))) (Kd.R_lt (zz22 HO_6.out))) (keep_size (w := w) (g := g) (row := none) (zz84 GW268.out GW272.out)))
       replace HO_3 := zA (Kd.R_mono (Kd.R_told (Kd.R_oldK (IsS120.apart (show IsS120 w0 _ g s0_0 _ from by repeat (first | (with_reducible first | exact HI0.out | apply IsS120.alloc | apply IsS120.drewN | apply IsS120.drew | apply IsS120.set_1 | refine IsS120.far ?_ NB0_268.out _ | refine IsS120.far ?_ NB0_272.out _) | exact HI0.out)) (zz22 HO_3.out) (by decide)) hk) (Kd.R_base ho0)) (fun _ h_ => h_.1))
       replace HO_6 := zA (Kd.R_mono (Kd.R_told (Kd.R_oldK (IsS120.apart (show IsS120 w0 _ g s0_0 _ from by repeat (first | (with_reducible first | exact HI0.out | apply IsS120.alloc | apply IsS120.drewN | apply IsS120.drew | apply IsS120.set_1 | refine IsS120.far ?_ NB0_268.out _ | refine IsS120.far ?_ NB0_272.out _) | exact HI0.out)) (zz22 HO_6.out) (by decide)) hk) (Kd.R_base ho0)) (fun _ h_ => h_.1))
       replace HK := zA (zz92 GW268.out GW272.out)
       replace HB := zA (hb)
       replace HI0 := zA (hi)
       (try clear hb)
       (try clear hb2)
       (try clear hk)
       (try clear hi)
       (try clear ho0)
       refine hK.out _ _ (HS0_) (fun hHeld => ?_)
       clear hK K
       refine qn_ 30 ?_
       refine two_ (i := 10) (j := 13) (Ni := some 32) (Nj := some 8) #[tt,tt,tt,tt,tt,tt,tt,tt,tt,tt,tt,ff,ff,ff,ff] #[tt,tt,tt,tt,tt,tt,tt,tt,tt,tt,ff,ff,ff,tt,ff] rfl rfl rfl rfl (two_of HT_.out (by kernel_rfl)) (by decide) (by decide) (fun K hK => ?_) (fun K hK => ?_)
       ·skip
        refine goes_ Try.func85 (by kernel_rfl) rfl #[.pointer (some ⟨g, 0, none⟩), .int .i64 6] (by rfl) rfl rfl zz17 ?_
        with_reducible refine (spec_reader_pick.calls k1 g s0_0 t291 6 t292 t293 w0 _ ?side1 ?side2 A21.out).mono ?_
        (case side1 => exact (zz88 HI0.out NB0_268.out NB0_272.out))
        (case side2 => exact (zz89 HI0.out GE268.out GE272.out))
        rintro e w27 ⟨rfl, hi, hb, hk⟩
        have HS0_ := keep_cell hk (hHeld) (zz97 HI0.out HO_3.out)
        refine ⟨_, rfl, ?_⟩
        replace HO_3 := zA (zz91 HI0.out NB0_268.out NB0_272.out HO_3.out)
        replace HO_6 := zA (zz91 HI0.out NB0_268.out NB0_272.out HO_6.out)
        replace HO_273000 := zA (Kd.S_mono (Kd.S_keep (IsS120.apartS (show IsS120 w0 _ g s0_0 _ from by repeat (first | (with_reducible first | exact HI0.out | apply IsS120.alloc | apply IsS120.drewN | apply IsS120.drew | apply IsS120.set_1 | refine IsS120.far ?_ NB0_268.out _ | refine IsS120.far ?_ NB0_272.out _) | exact HI0.out)) (zz63 HO_273000.out) (by decide)) hk (fun _ h => h.2)) (fun _ h => h.1))
        replace BK268 := zA (zz90 BK268.out NB268_0.out)
        replace BK272 := zA (zz98 BK272.out NB272_0.out)
        replace HO290 := zA (zz91 HI0.out NB0_268.out NB0_272.out HO290.out)
        replace HK := zA (zz92 GW268.out GW272.out)
        replace HB := zA (hb)
        replace HI0 := zA (hi)
        (try clear hb)
        (try clear hb2)
        (try clear hk)
        (try clear hi)
        obtain ⟨Ao28, co28, eo28⟩ := Kd.R_slice HO290.out
        (first | subst eo28 | (injection eo28 with f1_ f2_ f3_; have f4_ := f1_.symm; have f5_ := f3_.symm; clear f1_ f2_ f3_; subst f4_; subst f5_))
        refine hK.out _ _ (HS0_) (fun hHeld => ?_)
        clear hK K
        refine qn_ 32 ?_
        refine qp_ 11 33 ?_
        refine qp_ 12 34 ?_
        refine qo_ 13 8 (fun K hK => ?_)
        refine box_step ?hg (N := 8) ?hd (cs := #[.string (⟨#[]⟩ : ByteArray), .int .i64 0, .slice none 0 0, .bool false]) (t := 133) ?hr ?_; (case hd => rfl); (case hg => rfl); (case hr => exact zz32)
        intro gb294 hg w29 hbox hb
        have HS0_ := (hb.cell (World.block_lt_of_cell? _ _ (hHeld))).trans (hHeld)
        replace HO_3 := zA (zz33 HO_3.out)
        replace HO_6 := zA (zz33 HO_6.out)
        replace HO_273000 := zA (zz99 HO_273000.out)
        replace HO290 := zA (zz33 HO290.out)
        replace HB := zA (zz87 HI0.out GE268.out GE272.out)
        have BK294 := zA (hbox)
        have GW294 := zA (((zz100 GW268.out GW272.out) : w.heap.size ≤ gb294))
        have GE294 := zA ((Nat.le_trans HW0.out ((zz100 GW268.out GW272.out) : w.heap.size ≤ gb294) : w0.heap.size ≤ gb294))
        replace HK := zA (zz86 GW268.out GW272.out)
        have NB268_294 := zA (((zz80 BK268.out) : gb268 ≠ gb294))
        have NB294_268 := zA (((zz81 BK268.out) : gb294 ≠ gb268))
        replace BK268 := zA (zz78 BK268.out)
        have NB272_294 := zA (((zz101 BK272.out) : gb272 ≠ gb294))
        have NB294_272 := zA (((zz102 BK272.out) : gb294 ≠ gb272))
        replace BK272 := zA (zz103 BK272.out)
        have NB0_294 := zA (((zz104 HI0.out NB0_268.out NB0_272.out) : g ≠ gb294))
        have NB294_0 := zA (((zz105 HI0.out NB0_268.out NB0_272.out) : gb294 ≠ g))
        replace HI0 := zA (zz93 HI0.out NB0_268.out NB0_272.out)
        clear hb hbox hg
        refine hK.out _ _ (HS0_) (fun hHeld => ?_)
        clear hK K
        refine qn_ 8 ?_
        exact norm_ zz52 (hCont (.slice Ao28 t288.length co28, gb294) _ ⟨hHeld, (zz55 HO290.out), (by (with_reducible repeat first | apply Kd.S_alloc | apply Kd.S_drewN | apply Kd.S_drew); exact Kd.S_mono HO_273000.out (fun _ hk => ⟨hk.1.2, ⟨hk.1.1.1, ⟨hk.1.1.2, hk.2⟩⟩⟩)), (zz53 HO_3.out), (zz53 HO_6.out), (zz6 BK268.out), (zz6 BK272.out), (zz6 BK294.out), GW294.out, GE294.out, NB0_294.out, NB294_0.out, NB268_294.out, NB294_268.out, NB272_294.out, NB294_272.out, (zz106 HI0.out NB0_268.out NB0_272.out NB0_294.out), (zz107 GW268.out GW272.out GW294.out), (zz108 HI0.out GE268.out GE272.out GE294.out)⟩)
       ·skip
        refine box_step ?hg (N := 8) ?hd (cs := #[.string (⟨#[]⟩ : ByteArray), .int .i64 0, .slice none 0 0, .bool false]) (t := 133) ?hr ?_; (case hd => rfl); (case hg => rfl); (case hr => exact zz32)
        intro gb294 hg w27 hbox hb
        have HS0_ := (hb.cell (World.block_lt_of_cell? _ _ (hHeld))).trans (hHeld)
        replace HO_3 := zA (zz33 HO_3.out)
        replace HO_6 := zA (zz33 HO_6.out)
        replace HO_273000 := zA (zz99 HO_273000.out)
        replace HO290 := zA (zz33 HO290.out)
        replace HB := zA (zz87 HI0.out GE268.out GE272.out)
        have BK294 := zA (hbox)
        have GW294 := zA (((zz100 GW268.out GW272.out) : w.heap.size ≤ gb294))
        have GE294 := zA ((Nat.le_trans HW0.out ((zz100 GW268.out GW272.out) : w.heap.size ≤ gb294) : w0.heap.size ≤ gb294))
        replace HK := zA (zz86 GW268.out GW272.out)
        have NB268_294 := zA (((zz80 BK268.out) : gb268 ≠ gb294))
        have NB294_268 := zA (((zz81 BK268.out) : gb294 ≠ gb268))
        replace BK268 := zA (zz78 BK268.out)
        have NB272_294 := zA (((zz101 BK272.out) : gb272 ≠ gb294))
        have NB294_272 := zA (((zz102 BK272.out) : gb294 ≠ gb272))
        replace BK272 := zA (zz103 BK272.out)
        have NB0_294 := zA (((zz104 HI0.out NB0_268.out NB0_272.out) : g ≠ gb294))
        have NB294_0 := zA (((zz105 HI0.out NB0_268.out NB0_272.out) : gb294 ≠ g))
        replace HI0 := zA (zz93 HI0.out NB0_268.out NB0_272.out)
        clear hb hbox hg
        refine hK.out _ _ (HS0_) (fun hHeld => ?_)
        clear hK K
        refine qn_ 8 ?_
        refine qo_ 10 32 (fun K hK => ?_)
        refine goes_ Try.func85 (by kernel_rfl) rfl #[.pointer (some ⟨g, 0, none⟩), .int .i64 6] (by rfl) rfl rfl zz17 ?_
        with_reducible refine (spec_reader_pick.calls k1 g s0_0 t291 6 t292 t293 w0 _ ?side1 ?side2 A21.out).mono ?_
        (case side1 => exact (zz109 HI0.out NB0_268.out NB0_272.out NB0_294.out))
        (case side2 => exact (zz110 HI0.out GE268.out GE272.out GE294.out))
        rintro e w28 ⟨rfl, hi, hb, hk⟩
        have HS0_ := keep_cell hk (hHeld) (zz97 HI0.out HO_3.out)
        refine ⟨_, rfl, ?_⟩
        replace HO_3 := zA (zz111 HI0.out NB0_268.out NB0_272.out NB0_294.out HO_3.out)
        replace HO_6 := zA (zz111 HI0.out NB0_268.out NB0_272.out NB0_294.out HO_6.out)
        replace HO_273000 := zA (zz112 HI0.out NB0_268.out NB0_272.out NB0_294.out HO_273000.out)
        replace BK268 := zA (zz90 BK268.out NB268_0.out)
        replace BK272 := zA (zz98 BK272.out NB272_0.out)
        replace HO290 := zA (zz111 HI0.out NB0_268.out NB0_272.out NB0_294.out HO290.out)
        replace BK294 := zA (zz113 BK294.out NB294_0.out)
        replace HK := zA (zz114 GW268.out GW272.out GW294.out)
        replace HB := zA (hb)
        replace HI0 := zA (hi)
        (try clear hb)
        (try clear hb2)
        (try clear hk)
        (try clear hi)
        obtain ⟨Ao29, co29, eo29⟩ := Kd.R_slice HO290.out
        (first | subst eo29 | (injection eo29 with f1_ f2_ f3_; have f4_ := f1_.symm; have f5_ := f3_.symm; clear f1_ f2_ f3_; subst f4_; subst f5_))
        refine hK.out _ _ (HS0_) (fun hHeld => ?_)
        clear hK K
        refine qn_ 32 ?_
        refine qp_ 11 33 ?_
        refine qp_ 12 34 ?_
        exact norm_ zz52 (hCont (.slice Ao29 t288.length co29, gb294) _ ⟨hHeld, (zz55 HO290.out), (by (with_reducible repeat first | apply Kd.S_alloc | apply Kd.S_drewN | apply Kd.S_drew); exact Kd.S_mono HO_273000.out (fun _ hk => ⟨hk.1.2, ⟨hk.1.1.1, ⟨hk.1.1.2, hk.2⟩⟩⟩)), (zz53 HO_3.out), (zz53 HO_6.out), (zz6 BK268.out), (zz6 BK272.out), (zz6 BK294.out), GW294.out, GE294.out, NB0_294.out, NB294_0.out, NB268_294.out, NB294_268.out, NB272_294.out, NB294_272.out, (zz106 HI0.out NB0_268.out NB0_272.out NB0_294.out), (zz107 GW268.out GW272.out GW294.out), (zz108 HI0.out GE268.out GE272.out GE294.out)⟩)
      ·skip
       refine box_step ?hg (N := 8) ?hd (cs := #[.string (⟨#[]⟩ : ByteArray), .int .i64 0, .slice none 0 0, .bool false]) (t := 133) ?hr ?_; (case hd => rfl); (case hg => rfl); (case hr => exact zz32)
       intro gb294 hg w26 hbox hb
       have HS0_ := (hb.cell (World.block_lt_of_cell? _ _ (hHeld))).trans (hHeld)
       replace HO_3 := zA (zz33 HO_3.out)
       replace HO_6 := zA (zz33 HO_6.out)
       replace HO_273000 := zA (zz99 HO_273000.out)
       replace HB := zA (zz87 HI0.out GE268.out GE272.out)
       have BK294 := zA (hbox)
       have GW294 := zA (((zz100 GW268.out GW272.out) : w.heap.size ≤ gb294))
       have GE294 := zA ((Nat.le_trans HW0.out ((zz100 GW268.out GW272.out) : w.heap.size ≤ gb294) : w0.heap.size ≤ gb294))
       replace HK := zA (zz86 GW268.out GW272.out)
       have NB268_294 := zA (((zz80 BK268.out) : gb268 ≠ gb294))
       have NB294_268 := zA (((zz81 BK268.out) : gb294 ≠ gb268))
       replace BK268 := zA (zz78 BK268.out)
       have NB272_294 := zA (((zz101 BK272.out) : gb272 ≠ gb294))
       have NB294_272 := zA (((zz102 BK272.out) : gb294 ≠ gb272))
       replace BK272 := zA (zz103 BK272.out)
       have NB0_294 := zA (((zz104 HI0.out NB0_268.out NB0_272.out) : g ≠ gb294))
       have NB294_0 := zA (((zz105 HI0.out NB0_268.out NB0_272.out) : gb294 ≠ g))
       replace HI0 := zA (zz93 HI0.out NB0_268.out NB0_272.out)
       clear hb hbox hg
       refine hK.out _ _ (HS0_) (fun hHeld => ?_)
       clear hK K
       refine qn_ 8 ?_
       refine qo_ 8 30 (fun K hK => ?_)
       refine goes_ Try.func119 (by kernel_rfl) rfl #[.pointer (some ⟨g, 0, none⟩), .slice Ao22 x6_1.length co22] (by rfl) rfl rfl zz17 ?_
       with_reducible refine (spec_someNeeds.calls k1 g s0_0 t287 _ _ x6_1 t288 t291 w0 _ ?side1 ?side2 ?side3 ?side4 ?side5 A20.out).mono ?_
       (case side1 => exact (zz109 HI0.out NB0_268.out NB0_272.out NB0_294.out))
       (case side2 => exact (zz110 HI0.out GE268.out GE272.out GE294.out))
       (case side3 => exact (zz20 HO_6.out))
       (case side4 => exact (zz21 HO_6.out))
       (case side5 => exact (zz34 HI0.out HO_6.out))
       rintro e w27 ⟨v289, rfl, ho0, hi, hb, hk⟩
       have HS0_ := keep_cell hk (hHeld) (zz97 HI0.out HO_3.out)
       refine ⟨_, rfl, ?_⟩
       replace HO_273000 := zA (Kd.S_mono (Kd.S_told (Kd.S_oldK (IsS120.apartS (show IsS120 w0 _ g s0_0 _ from by repeat (first | (with_reducible first | exact HI0.out | apply IsS120.alloc | apply IsS120.drewN | apply IsS120.drew | apply IsS120.set_1 | refine IsS120.far ?_ NB0_268.out _ | refine IsS120.far ?_ NB0_272.out _ | refine IsS120.far ?_ NB0_294.out _) | exact HI0.out)) (zz63 HO_273000.out) (by decide)) hk) (Kd.R_base ho0)) (fun _ h_ => h_.1))
       replace BK268 := zA (zz90 BK268.out NB268_0.out)
       replace BK272 := zA (zz98 BK272.out NB272_0.out)
       replace BK294 := zA (zz113 BK294.out NB294_0.out)
       have HO290 := zA (Kd.R_lower (Kd.R_new' (Kd.R_new' ho0 (Kd.R_lt (zz22 HO_3.out))) (Kd.R_lt (zz22 HO_6.out))) (keep_size (w := w) (g := g) (row := none) (zz107 GW268.out GW272.out GW294.out)))
       replace HO_3 := zA (zz115 HI0.out NB0_268.out NB0_272.out NB0_294.out HO_3.out ho0)
       replace HO_6 := zA (zz115 HI0.out NB0_268.out NB0_272.out NB0_294.out HO_6.out ho0)
       replace HK := zA (zz114 GW268.out GW272.out GW294.out)
       replace HB := zA (hb)
       replace HI0 := zA (hi)
       (try clear hb)
       (try clear hb2)
       (try clear hk)
       (try clear hi)
       (try clear ho0)
       refine hK.out _ _ (HS0_) (fun hHeld => ?_)
       clear hK K
       refine qn_ 30 ?_
       refine qo_ 10 32 (fun K hK => ?_)
       refine goes_ Try.func85 (by kernel_rfl) rfl #[.pointer (some ⟨g, 0, none⟩), .int .i64 6] (by rfl) rfl rfl zz17 ?_
       with_reducible refine (spec_reader_pick.calls k1 g s0_0 t291 6 t292 t293 w0 _ ?side1 ?side2 A21.out).mono ?_
       (case side1 => exact (zz109 HI0.out NB0_268.out NB0_272.out NB0_294.out))
       (case side2 => exact (zz110 HI0.out GE268.out GE272.out GE294.out))
       rintro e w28 ⟨rfl, hi, hb, hk⟩
       have HS0_ := keep_cell hk (hHeld) (zz97 HI0.out HO_3.out)
       refine ⟨_, rfl, ?_⟩
       replace HO_3 := zA (zz111 HI0.out NB0_268.out NB0_272.out NB0_294.out HO_3.out)
       replace HO_6 := zA (zz111 HI0.out NB0_268.out NB0_272.out NB0_294.out HO_6.out)
       replace HO_273000 := zA (zz112 HI0.out NB0_268.out NB0_272.out NB0_294.out HO_273000.out)
       replace BK268 := zA (zz90 BK268.out NB268_0.out)
       replace BK272 := zA (zz98 BK272.out NB272_0.out)
       replace BK294 := zA (zz113 BK294.out NB294_0.out)
       replace HO290 := zA (zz111 HI0.out NB0_268.out NB0_272.out NB0_294.out HO290.out)
       replace HK := zA (zz114 GW268.out GW272.out GW294.out)
       replace HB := zA (hb)
       replace HI0 := zA (hi)
       (try clear hb)
       (try clear hb2)
       (try clear hk)
       (try clear hi)
       obtain ⟨Ao29, co29, eo29⟩ := Kd.R_slice HO290.out
       (first | subst eo29 | (injection eo29 with f1_ f2_ f3_; have f4_ := f1_.symm; have f5_ := f3_.symm; clear f1_ f2_ f3_; subst f4_; subst f5_))
       refine hK.out _ _ (HS0_) (fun hHeld => ?_)
       clear hK K
       refine qn_ 32 ?_
       refine qp_ 11 33 ?_
       refine qp_ 12 34 ?_
       exact norm_ zz52 (hCont (.slice Ao29 t288.length co29, gb294) _ ⟨hHeld, (zz55 HO290.out), (by (with_reducible repeat first | apply Kd.S_alloc | apply Kd.S_drewN | apply Kd.S_drew); exact Kd.S_mono HO_273000.out (fun _ hk => ⟨hk.2, ⟨hk.1.1.1, ⟨hk.1.1.2, hk.1.2⟩⟩⟩)), (zz53 HO_3.out), (zz53 HO_6.out), (zz6 BK268.out), (zz6 BK272.out), (zz6 BK294.out), GW294.out, GE294.out, NB0_294.out, NB294_0.out, NB268_294.out, NB294_268.out, NB272_294.out, NB294_272.out, (zz106 HI0.out NB0_268.out NB0_272.out NB0_294.out), (zz107 GW268.out GW272.out GW294.out), (zz108 HI0.out GE268.out GE272.out GE294.out)⟩)
     ·skip
      refine box_step ?hg (N := 8) ?hd (cs := #[.string (⟨#[]⟩ : ByteArray), .int .i64 0, .slice none 0 0, .bool false]) (t := 133) ?hr ?_; (case hd => rfl); (case hg => rfl); (case hr => exact zz32)
      intro gb294 hg w25 hbox hb
      have HS0_ := (hb.cell (World.block_lt_of_cell? _ _ (hHeld))).trans (hHeld)
      replace HO_3 := zA (zz33 HO_3.out)
      replace HO_6 := zA (zz33 HO_6.out)
      replace HO_273000 := zA (zz99 HO_273000.out)
      replace HB := zA (zz87 HI0.out GE268.out GE272.out)
      have BK294 := zA (hbox)
      have GW294 := zA (((zz100 GW268.out GW272.out) : w.heap.size ≤ gb294))
      have GE294 := zA ((Nat.le_trans HW0.out ((zz100 GW268.out GW272.out) : w.heap.size ≤ gb294) : w0.heap.size ≤ gb294))
      replace HK := zA (zz86 GW268.out GW272.out)
      have NB268_294 := zA (((zz80 BK268.out) : gb268 ≠ gb294))
      have NB294_268 := zA (((zz81 BK268.out) : gb294 ≠ gb268))
      replace BK268 := zA (zz78 BK268.out)
      have NB272_294 := zA (((zz101 BK272.out) : gb272 ≠ gb294))
      have NB294_272 := zA (((zz102 BK272.out) : gb294 ≠ gb272))
      replace BK272 := zA (zz103 BK272.out)
      have NB0_294 := zA (((zz104 HI0.out NB0_268.out NB0_272.out) : g ≠ gb294))
      have NB294_0 := zA (((zz105 HI0.out NB0_268.out NB0_272.out) : gb294 ≠ g))
      replace HI0 := zA (zz93 HI0.out NB0_268.out NB0_272.out)
      clear hb hbox hg
      refine hK.out _ _ (HS0_) (fun hHeld => ?_)
      clear hK K
      refine qn_ 8 ?_
      refine qo_ 5 27 (fun K hK => ?_)
      refine goes_ Try.func85 (by kernel_rfl) rfl #[.pointer (some ⟨g, 0, none⟩), .int .i64 3] (by rfl) rfl rfl zz17 ?_
      with_reducible refine (spec_reader_pick.calls k1 g s0_0 x1001_1 3 t286 t287 w0 _ ?side1 ?side2 A19.out).mono ?_
      (case side1 => exact (zz109 HI0.out NB0_268.out NB0_272.out NB0_294.out))
      (case side2 => exact (zz110 HI0.out GE268.out GE272.out GE294.out))
      rintro e w26 ⟨rfl, hi, hb, hk⟩
      have HS0_ := keep_cell hk (hHeld) (zz97 HI0.out HO_3.out)
      refine ⟨_, rfl, ?_⟩
      replace HO_3 := zA (zz111 HI0.out NB0_268.out NB0_272.out NB0_294.out HO_3.out)
      replace HO_6 := zA (zz111 HI0.out NB0_268.out NB0_272.out NB0_294.out HO_6.out)
      replace HO_273000 := zA (zz112 HI0.out NB0_268.out NB0_272.out NB0_294.out HO_273000.out)
      replace BK268 := zA (zz90 BK268.out NB268_0.out)
      replace BK272 := zA (zz98 BK272.out NB272_0.out)
      replace BK294 := zA (zz113 BK294.out NB294_0.out)
      replace HK := zA (zz114 GW268.out GW272.out GW294.out)
      replace HB := zA (hb)
      replace HI0 := zA (hi)
      (try clear hb)
      (try clear hb2)
      (try clear hk)
      (try clear hi)
      refine hK.out _ _ (HS0_) (fun hHeld => ?_)
      clear hK K
      refine qn_ 27 ?_
      refine qo_ 8 30 (fun K hK => ?_)
      refine goes_ Try.func119 (by kernel_rfl) rfl #[.pointer (some ⟨g, 0, none⟩), .slice Ao22 x6_1.length co22] (by rfl) rfl rfl zz17 ?_
      with_reducible refine (spec_someNeeds.calls k1 g s0_0 t287 _ _ x6_1 t288 t291 w0 _ ?side1 ?side2 ?side3 ?side4 ?side5 A20.out).mono ?_
      (case side1 => exact (zz109 HI0.out NB0_268.out NB0_272.out NB0_294.out))
      (case side2 => exact (zz110 HI0.out GE268.out GE272.out GE294.out))
      (case side3 => exact (zz20 HO_6.out))
      (case side4 => exact (zz21 HO_6.out))
      (case side5 => exact (zz34 HI0.out HO_6.out))
      rintro e w27 ⟨v289, rfl, ho0, hi, hb, hk⟩
      have HS0_ := keep_cell hk (hHeld) (zz97 HI0.out HO_3.out)
      refine ⟨_, rfl, ?_⟩
      replace HO_273000 := zA (Kd.S_mono (Kd.S_told (Kd.S_oldK (IsS120.apartS (show IsS120 w0 _ g s0_0 _ from by repeat (first | (with_reducible first | exact HI0.out | apply IsS120.alloc | apply IsS120.drewN | apply IsS120.drew | apply IsS120.set_1 | refine IsS120.far ?_ NB0_268.out _ | refine IsS120.far ?_ NB0_272.out _ | refine IsS120.far ?_ NB0_294.out _) | exact HI0.out)) (zz63 HO_273000.out) (by decide)) hk) (Kd.R_base ho0)) (fun _ h_ => h_.1))
      replace BK268 := zA (zz90 BK268.out NB268_0.out)
      replace BK272 := zA (zz98 BK272.out NB272_0.out)
      replace BK294 := zA (zz113 BK294.out NB294_0.out)
      have HO290 := zA (Kd.R_lower (Kd.R_new' (Kd.R_new' ho0 (Kd.R_lt (zz22 HO_3.out))) (Kd.R_lt (zz22 HO_6.out))) (keep_size (w := w) (g := g) (row := none) (zz107 GW268.out GW272.out GW294.out)))
      replace HO_3 := zA (zz115 HI0.out NB0_268.out NB0_272.out NB0_294.out HO_3.out ho0)
      replace HO_6 := zA (zz115 HI0.out NB0_268.out NB0_272.out NB0_294.out HO_6.out ho0)
      replace HK := zA (zz114 GW268.out GW272.out GW294.out)
      replace HB := zA (hb)
      replace HI0 := zA (hi)
      (try clear hb)
      (try clear hb2)
      (try clear hk)
      (try clear hi)
      (try clear ho0)
      refine hK.out _ _ (HS0_) (fun hHeld => ?_)
      clear hK K
      refine qn_ 30 ?_
      refine qo_ 10 32 (fun K hK => ?_)
      refine goes_ Try.func85 (by kernel_rfl) rfl #[.pointer (some ⟨g, 0, none⟩), .int .i64 6] (by rfl) rfl rfl zz17 ?_
      with_reducible refine (spec_reader_pick.calls k1 g s0_0 t291 6 t292 t293 w0 _ ?side1 ?side2 A21.out).mono ?_
      (case side1 => exact (zz109 HI0.out NB0_268.out NB0_272.out NB0_294.out))
      (case side2 => exact (zz110 HI0.out GE268.out GE272.out GE294.out))
      rintro e w28 ⟨rfl, hi, hb, hk⟩
      have HS0_ := keep_cell hk (hHeld) (zz97 HI0.out HO_3.out)
      refine ⟨_, rfl, ?_⟩
      replace HO_3 := zA (zz111 HI0.out NB0_268.out NB0_272.out NB0_294.out HO_3.out)
      replace HO_6 := zA (zz111 HI0.out NB0_268.out NB0_272.out NB0_294.out HO_6.out)
      replace HO_273000 := zA (zz112 HI0.out NB0_268.out NB0_272.out NB0_294.out HO_273000.out)
      replace BK268 := zA (zz90 BK268.out NB268_0.out)
      replace BK272 := zA (zz98 BK272.out NB272_0.out)
      replace BK294 := zA (zz113 BK294.out NB294_0.out)
      replace HO290 := zA (zz111 HI0.out NB0_268.out NB0_272.out NB0_294.out HO290.out)
      replace HK := zA (zz114 GW268.out GW272.out GW294.out)
      replace HB := zA (hb)
      replace HI0 := zA (hi)
      (try clear hb)
      (try clear hb2)
      (try clear hk)
      (try clear hi)
      obtain ⟨Ao29, co29, eo29⟩ := Kd.R_slice HO290.out
      (first | subst eo29 | (injection eo29 with f1_ f2_ f3_; have f4_ := f1_.symm; have f5_ := f3_.symm; clear f1_ f2_ f3_; subst f4_; subst f5_))
      refine hK.out _ _ (HS0_) (fun hHeld => ?_)
      clear hK K
      refine qn_ 32 ?_
      refine qp_ 11 33 ?_
      refine qp_ 12 34 ?_
      exact norm_ zz52 (hCont (.slice Ao29 t288.length co29, gb294) _ ⟨hHeld, (zz55 HO290.out), (by (with_reducible repeat first | apply Kd.S_alloc | apply Kd.S_drewN | apply Kd.S_drew); exact Kd.S_mono HO_273000.out (fun _ hk => ⟨hk.2, ⟨hk.1.1.1, ⟨hk.1.1.2, hk.1.2⟩⟩⟩)), (zz53 HO_3.out), (zz53 HO_6.out), (zz6 BK268.out), (zz6 BK272.out), (zz6 BK294.out), GW294.out, GE294.out, NB0_294.out, NB294_0.out, NB268_294.out, NB294_268.out, NB272_294.out, NB294_272.out, (zz106 HI0.out NB0_268.out NB0_272.out NB0_294.out), (zz107 GW268.out GW272.out GW294.out), (zz108 HI0.out GE268.out GE272.out GE294.out)⟩)
    rintro ⟨v289, gb294⟩ w30 ⟨hS_, h0_, h1_, h2_, h3_, h4_, h5_, h6_, h7_, h8_, h9_, h10_, h11_, h12_, h13_, h14_, h15_, h16_, h17_⟩
    have n0_ : Aside0 (Kd.R Kd.string 9 w30 w.heap.size (fun k_ => some k_ ≠ (.slice (some ad285) y269.length co24 : Value).ownBlock ∧ some k_ ≠ (.slice Ao22 x6_1.length co22 : Value).ownBlock) v289 t288) := ⟨h0_⟩
    have n1_ : Aside0 (Kd.S k133 133 w30 w.heap.size (fun k_ => some k_ ≠ (v289 : Value).ownBlock ∧ some k_ ≠ (.slice (some ad285) y269.length co24 : Value).ownBlock ∧ some k_ ≠ (.slice Ao22 x6_1.length co22 : Value).ownBlock ∧ k_ ≠ gb294) u273000 x273000_1) := ⟨h1_⟩
    have n2_ : Aside0 (Kd.R Kd.string 9 w30 w.heap.size (fun k_ => some k_ ≠ (v289 : Value).ownBlock ∧ some k_ ≠ (.slice Ao22 x6_1.length co22 : Value).ownBlock) (.slice (some ad285) y269.length co24) y269) := ⟨h2_⟩
    have n3_ : Aside0 (Kd.R Kd.string 9 w30 w.heap.size (fun k_ => some k_ ≠ (v289 : Value).ownBlock ∧ some k_ ≠ (.slice (some ad285) y269.length co24 : Value).ownBlock) (.slice Ao22 x6_1.length co22) x6_1) := ⟨h3_⟩
    have n4_ : Aside0 (w30.heap[gb268]? = some (.cells #[.slice none 0 0, .slice none 0 0] 108 (0, 0))) := ⟨h4_⟩
    have n5_ : Aside0 (w30.heap[gb272]? = some (.cells #[u273000, .slice none 0 0] 108 (0, 0))) := ⟨h5_⟩
    have n6_ : Aside0 (w30.heap[gb294]? = some (.cells #[.string (⟨#[]⟩ : ByteArray), .int .i64 0, .slice none 0 0, .bool false] 133 (0, 0))) := ⟨h6_⟩
    have n7_ : Aside0 (w.heap.size ≤ gb294) := ⟨h7_⟩
    have n8_ : Aside0 (w0.heap.size ≤ gb294) := ⟨h8_⟩
    have n9_ : Aside0 (g ≠ gb294) := ⟨h9_⟩
    have n10_ : Aside0 (gb294 ≠ g) := ⟨h10_⟩
    have n11_ : Aside0 (gb268 ≠ gb294) := ⟨h11_⟩
    have n12_ : Aside0 (gb294 ≠ gb268) := ⟨h12_⟩
    have n13_ : Aside0 (gb272 ≠ gb294) := ⟨h13_⟩
    have n14_ : Aside0 (gb294 ≠ gb272) := ⟨h14_⟩
    have n15_ : Aside0 (IsS120 w0 w30 g s0_0 t293) := ⟨h15_⟩
    have n16_ : Aside0 (KeepBut w w30 g none) := ⟨h16_⟩
    have n17_ : Aside0 (Below w0.heap.size w0 w30) := ⟨h17_⟩
    clear HO_3 HO_6 HO_273000 BK268 BK272 HI0 HK HB h0_ h1_ h2_ h3_ h4_ h5_ h6_ h7_ h8_ h9_ h10_ h11_ h12_ h13_ h14_ h15_ h16_ h17_; have HO290 := n0_; have HO_273000 := n1_; have HO_3 := n2_; have HO_6 := n3_; have BK268 := n4_; have BK272 := n5_; have BK294 := n6_; have GW294 := n7_; have GE294 := n8_; have NB0_294 := n9_; have NB294_0 := n10_; have NB268_294 := n11_; have NB294_268 := n12_; have NB272_294 := n13_; have NB294_272 := n14_; have HI0 := n15_; have HK := n16_; have HB := n17_; clear n0_ n1_ n2_ n3_ n4_ n5_ n6_ n7_ n8_ n9_ n10_ n11_ n12_ n13_ n14_ n15_ n16_ n17_
    have hHeld : w30.cell? (ad285.add (x7_1).toNat) = some (.string (rdOf ByteArray.empty y269 x7_1)) := hS_
    obtain ⟨Ao31, co31, eo31⟩ := Kd.R_slice HO290.out
    (first | subst eo31 | (injection eo31 with f1_ f2_ f3_; have f4_ := f1_.symm; have f5_ := f3_.symm; clear f1_ f2_ f3_; subst f4_; subst f5_))
    refine norm_ (a' := ?_) ?_ ?_
    rotate_left
    ·simp only [putAll, Act.put, List.setIfInBounds_toArray, List.set_cons_zero, List.set_cons_succ]
     rfl
    refine one_ (i := 14) (N := none) #[tt,tt,tt,tt,tt,tt,tt,tt,tt,tt,tt,tt,tt,tt,tt] rfl rfl (one_of HT_.out (by kernel_rfl)) (by decide) (fun K hK => ?_)
    have hs32 : w30.cell? ⟨gb294, 0, none⟩ = some (.string (⟨#[]⟩ : ByteArray)) := bq_ BK294.out 0
    have hfs32 := blk_frozen BK294.out 0; have hns32_0 := NB268_294.out; have hns32_1 := NB272_294.out; have hms32_0 := NB294_268.out; have hms32_1 := NB294_272.out
    have hs33 : w30.cell? ⟨gb294, 1, none⟩ = some (.int .i64 0) := bq_ BK294.out 1
    have hfs33 := blk_frozen BK294.out 1; have hns33_0 := NB268_294.out; have hns33_1 := NB272_294.out; have hms33_0 := NB294_268.out; have hms33_1 := NB294_272.out
    have hs34 : w30.cell? ⟨gb294, 2, none⟩ = some (.slice none 0 0) := bq_ BK294.out 2
    have hfs34 := blk_frozen BK294.out 2; have hns34_0 := NB268_294.out; have hns34_1 := NB272_294.out; have hms34_0 := NB294_268.out; have hms34_1 := NB294_272.out
    have hs35 : w30.cell? ⟨gb294, 3, none⟩ = some (.bool false) := bq_ BK294.out 3
    have hfs35 := blk_frozen BK294.out 3; have hns35_0 := NB268_294.out; have hns35_1 := NB272_294.out; have hms35_0 := NB294_268.out; have hms35_1 := NB294_272.out
    refine skip_ (w1 := ?_) (by rfl) rfl ?_ ?_
    rotate_left
    ·go_simp
     rfl
    refine hK.out _ _ (((cell_far (p := ⟨gb294, _, none⟩) (zz116 HO_3.out BK294.out) _).trans (((cell_far (p := ⟨gb294, _, none⟩) (zz116 HO_3.out BK294.out) _).trans (((cell_far (p := ⟨gb294, _, none⟩) (zz116 HO_3.out BK294.out) _).trans (((cell_far (p := ⟨gb294, _, none⟩) (zz116 HO_3.out BK294.out) _).trans (hHeld))))))))) (fun hHeld => ?_)
    clear hK K
    refine qd_ ?_
    try go_wp2
    go_loopg [9] k1 (fun kq v9 w' => ∃ (x9_2 : Int) (x295001_2 : Int), v9 = .int .i64 x9_2 ∧ Aside0 (spec_goodSuite.l1 kq y269 t276 x6_1 x7_1 x9_2 s0_0 t293 x273000_1 (rdOf ByteArray.empty y269 x7_1) x295001_2 t288 (t292 == 0) = some (r1, r2, r3)) ∧ Aside0 (kq ≤ k1) ∧ Aside0 (Kd.R Kd.string 9 w' w.heap.size (fun k_ => some k_ ≠ ((.slice Ao22 x6_1.length co22) : Value).ownBlock ∧ some k_ ≠ ((.slice Ao31 t288.length co31) : Value).ownBlock) (.slice (some ad285) y269.length co24) y269) ∧ Aside0 (Kd.R Kd.string 9 w' w.heap.size (fun k_ => some k_ ≠ ((.slice (some ad285) y269.length co24) : Value).ownBlock ∧ some k_ ≠ ((.slice Ao31 t288.length co31) : Value).ownBlock) (.slice Ao22 x6_1.length co22) x6_1) ∧ Aside0 (Kd.S k133 133 w' w.heap.size (fun k_ => some k_ ≠ ((.slice (some ad285) y269.length co24) : Value).ownBlock ∧ some k_ ≠ ((.slice Ao22 x6_1.length co22) : Value).ownBlock ∧ some k_ ≠ ((.slice Ao31 t288.length co31) : Value).ownBlock ∧ k_ ≠ gb294) u273000 x273000_1) ∧ Aside0 (Kd.R Kd.string 9 w' w.heap.size (fun k_ => some k_ ≠ ((.slice (some ad285) y269.length co24) : Value).ownBlock ∧ some k_ ≠ ((.slice Ao22 x6_1.length co22) : Value).ownBlock) (.slice Ao31 t288.length co31) t288) ∧ Aside0 (w'.heap[gb268]? = some (.cells #[(.slice none 0 0), (.slice none 0 0)] 108 (0, 0))) ∧ Aside0 (w'.heap[gb272]? = some (.cells #[u273000, (.slice none 0 0)] 108 (0, 0))) ∧ Aside0 (w'.heap[gb294]? = some (.cells #[.string (rdOf ByteArray.empty y269 x7_1), .int .i64 x295001_2, (.slice Ao31 t288.length co31), .bool (t292 == 0)] 133 (0, 0))) ∧ Aside0 (IsS120 w0 w' g s0_0 t293) ∧ Aside0 (KeepBut w w' g none) ∧ Aside0 (Below w0.heap.size w0 w'))
    case atStart => exact ⟨(0), (t286), zz9, H', ⟨Nat.le_refl _⟩, ⟨by (with_reducible repeat first | apply Kd.R_alloc | apply Kd.R_drewN | apply Kd.R_drew); exact Kd.R_mono (Kd.R_far (p := ⟨gb294, 3, none⟩) (Kd.R_far (p := ⟨gb294, 2, none⟩) (Kd.R_far (p := ⟨gb294, 1, none⟩) (Kd.R_far (p := ⟨gb294, 0, none⟩) (Kd.R_types HO_3.out BK294.out (by decide)) (fun _ hk => hk.2) (.string (rdOf ByteArray.empty y269 x7_1))) (fun _ hk => hk.2) (.int .i64 t286)) (fun _ hk => hk.2) (.slice Ao31 t288.length co31)) (fun _ hk => hk.2) (.bool (t292 == 0))) (fun _ hk => ⟨hk.1.2, hk.1.1⟩)⟩, ⟨by (with_reducible repeat first | apply Kd.R_alloc | apply Kd.R_drewN | apply Kd.R_drew); exact Kd.R_mono (Kd.R_far (p := ⟨gb294, 3, none⟩) (Kd.R_far (p := ⟨gb294, 2, none⟩) (Kd.R_far (p := ⟨gb294, 1, none⟩) (Kd.R_far (p := ⟨gb294, 0, none⟩) (Kd.R_types HO_6.out BK294.out (by decide)) (fun _ hk => hk.2) (.string (rdOf ByteArray.empty y269 x7_1))) (fun _ hk => hk.2) (.int .i64 t286)) (fun _ hk => hk.2) (.slice Ao31 t288.length co31)) (fun _ hk => hk.2) (.bool (t292 == 0))) (fun _ hk => ⟨hk.1.2, hk.1.1⟩)⟩, ⟨by (with_reducible repeat first | apply Kd.S_alloc | apply Kd.S_drewN | apply Kd.S_drew); exact Kd.S_mono (Kd.S_far (p := ⟨gb294, 3, none⟩) (Kd.S_far (p := ⟨gb294, 2, none⟩) (Kd.S_far (p := ⟨gb294, 1, none⟩) (Kd.S_far (p := ⟨gb294, 0, none⟩) (Kd.S_mono HO_273000.out (fun k_ hk => (⟨hk, hk.2.2.2⟩ : _ ∧ k_ ≠ gb294))) (fun _ hk => hk.2) (.string (rdOf ByteArray.empty y269 x7_1))) (fun _ hk => hk.2) (.int .i64 t286)) (fun _ hk => hk.2) (.slice Ao31 t288.length co31)) (fun _ hk => hk.2) (.bool (t292 == 0))) (fun _ hk => ⟨hk.1.2.1, ⟨hk.1.2.2.1, ⟨hk.1.1, hk.1.2.2.2⟩⟩⟩)⟩, ⟨by (with_reducible repeat first | apply Kd.R_alloc | apply Kd.R_drewN | apply Kd.R_drew); exact Kd.R_mono (Kd.R_far (p := ⟨gb294, 3, none⟩) (Kd.R_far (p := ⟨gb294, 2, none⟩) (Kd.R_far (p := ⟨gb294, 1, none⟩) (Kd.R_far (p := ⟨gb294, 0, none⟩) (Kd.R_types HO290.out BK294.out (by decide)) (fun _ hk => hk.2) (.string (rdOf ByteArray.empty y269 x7_1))) (fun _ hk => hk.2) (.int .i64 t286)) (fun _ hk => hk.2) (.slice Ao31 t288.length co31)) (fun _ hk => hk.2) (.bool (t292 == 0))) (fun _ hk => ⟨hk.1.1, hk.1.2⟩)⟩, ⟨(zz117 NB268_294.out BK268.out)⟩, ⟨(zz117 NB272_294.out BK272.out)⟩, ⟨by (with_reducible repeat first | apply blk_drewN | apply blk_drew | apply blk_alloc); refine blk_put (cs := #[.string (rdOf ByteArray.empty y269 x7_1), .int .i64 t286, .slice Ao31 t288.length co31, .bool false]) ?_ 3 _ rfl; (with_reducible repeat first | apply blk_drewN | apply blk_drew | apply blk_alloc); refine blk_put (cs := #[.string (rdOf ByteArray.empty y269 x7_1), .int .i64 t286, .slice none 0 0, .bool false]) ?_ 2 _ rfl; (with_reducible repeat first | apply blk_drewN | apply blk_drew | apply blk_alloc); refine blk_put (cs := #[.string (rdOf ByteArray.empty y269 x7_1), .int .i64 0, .slice none 0 0, .bool false]) ?_ 1 _ rfl; (with_reducible repeat first | apply blk_drewN | apply blk_drew | apply blk_alloc); refine blk_put (cs := #[.string (⟨#[]⟩ : ByteArray), .int .i64 0, .slice none 0 0, .bool false]) ?_ 0 _ rfl; (with_reducible repeat first | apply blk_drewN | apply blk_drew | apply blk_alloc); exact BK294.out⟩, ⟨(zz109 HI0.out NB0_268.out NB0_272.out NB0_294.out)⟩, ⟨(zz118 GW268.out GW272.out GW294.out)⟩, ⟨(zz110 HI0.out GE268.out GE272.out GE294.out)⟩⟩
    case round =>
     clear H'; try clear c1; try clear p2; try clear c8; try clear c11
     obtain ⟨x9_2, x295001_2, rfl, HA, HK2, HO_3, HO_6, HO_273000, HO_295002, BK268, BK272, BK294, HI0, HK, HB⟩ := hrel
     cases gk with
     | zero => exact absurd HA.out (by simp [spec_goodSuite.l1])
     | succ k2 =>
      have H := HA.out; clear HA
      simp only [spec_goodSuite.l1] at H
      rcases iu_ H with ⟨c36b0, H⟩ | ⟨c36b0, H⟩
      ·obtain ⟨c37b0, H⟩ := it_ H
       obtain ⟨t296, A38, H⟩ := bs_ H
       (try dsimp only at H)
       obtain ⟨c39b0, H⟩ := it_ H
       obtain ⟨c40b0, H⟩ := it_ H
       obtain ⟨ji41, hji41⟩ : ∃ j_ : Int, (mn x295001_2 ((rd_T133 x273000_1 t296).f1)) = j_ := ⟨_, rfl⟩
       replace H : (spec_goodSuite.l1 k2 y269 t276 x6_1 x7_1 (wrap64 (x9_2 + 1)) s0_0 t293 x273000_1 (rdOf ByteArray.empty y269 x7_1) ji41 t288 (t292 == 0)) = some (r1, r2, r3) := (zz15 hji41)
       (try rw [hji41] at A38)
       have hji41_ : (if ((rd_T133 x273000_1 t296).f1) < x295001_2 then ((rd_T133 x273000_1 t296).f1) else x295001_2) = ji41 := hji41
       have H' := zA H; clear H; have hnb42 := NB294_268.out; have hnc42 := NB268_294.out; have hnb43 := NB294_272.out; have hnc43 := NB272_294.out; have hnb44 := NB294_0.out; have hnc44 := NB0_294.out
       obtain ⟨hcz45_0, hcz45_1, hcz45_2, hcz45_3, hfz45_0, hfz45_1, hfz45_2, hfz45_3⟩ := bk4_ BK294.out; try go_wp2; replace HO_3 := zA (Kd.R_drew HO_3.out); replace HO_6 := zA (Kd.R_drew HO_6.out); replace HO_273000 := zA (Kd.S_drew HO_273000.out); replace HO_295002 := zA (Kd.R_drew HO_295002.out); replace BK268 := zA (blk_drew BK268.out); replace BK272 := zA (blk_drew BK272.out); replace BK294 := zA (blk_drew BK294.out); replace HI0 := zA (IsS120.drew HI0.out); replace HK := zA zz96; replace HB := zA zz40
       have p295 : 0 ≤ (x9_2 : Int) := dz_
       have q295 : x9_2 < (t288.length : Int) := dz_
       obtain ⟨ad295, e295, hx295_0⟩ := Kd.at_string (Kd.R_reads' HO_295002.out).2.2 x9_2 p295 q295
       cases e295
       replace p295 := eq_true p295
       replace q295 := eq_true q295
       obtain ⟨Ao47, co47, eo47⟩ := Kd.S_slice HO_273000.out
       (first | subst eo47 | (injection eo47 with f1_ f2_ f3_; have f4_ := f1_.symm; have f5_ := f3_.symm; clear f1_ f2_ f3_; subst f4_; subst f5_))
       refine start_ (n := 9) (S := fun w' => w'.cell? ⟨gb272, 0, none⟩ = some (.slice Ao47 x273000_1.length co47) ∧ w'.cell? ⟨gb272, 1, none⟩ = some (.slice none 0 0) ∧ w'.cell? ⟨gb294, 0, none⟩ = some (.string (rdOf ByteArray.empty y269 x7_1)) ∧ w'.cell? ⟨gb294, 1, none⟩ = some (.int .i64 x295001_2) ∧ w'.cell? ⟨gb294, 2, none⟩ = some (.slice (some ad295) t288.length co31) ∧ w'.cell? ⟨gb294, 3, none⟩ = some (.bool (t292 == 0)) ∧ w'.cell? (ad295.add (x9_2).toNat) = some (.string (rdOf ByteArray.empty t288 x9_2))) (ds := []) #[ff,ff,ff,ff,ff,ff,ff,ff,ff] (by kernel_rfl) rfl rfl ⟨bq_ BK272.out 0, bq_ BK272.out 1, bq_ BK294.out 0, bq_ BK294.out 1, bq_ BK294.out 2, bq_ BK294.out 3, hx295_0⟩ (fun hHeld => ?_); refine with_tabW spec_goodSuite.tab12 spec_goodSuite.bits12 (fun HT_ HW_ => ?_)
       generalize wr.drew = w46 at HO_3 HO_6 HO_273000 HO_295002 BK268 BK272 BK294 HI0 HK HB hx295_0 hHeld ⊢
       refine qp_ 0 42 ?_
       refine qp_ 2 44 ?_
       refine qp_ 4 46 ?_
       refine qt_ 1 43 ?_
       refine qt_ 3 45 ?_
       refine qp_ 5 47 ?_
       refine qt_ 6 48 ?_
       refine qo_ 7 49 (fun K hK => ?_)
       refine goes_ Try.func120 (by kernel_rfl) rfl #[.slice Ao47 x273000_1.length co47, .string (rdOf ByteArray.empty t288 x9_2)] (by rfl) rfl rfl zz17 ?_
       with_reducible refine (spec_fixtureAt.calls k2 _ _ x273000_1 (rdOf ByteArray.empty t288 x9_2) t296 _ ?side1 ?side2 A38.out).mono ?_
       (case side1 => repeat (first | exact (Kd.S_reads' HO_273000.out).2.2 | with_reducible first | apply Kd.C_alloc | apply Kd.C_drewN | apply Kd.C_drew))
       (case side2 => exact (Kd.S_reads' HO_273000.out).2.1)
       rintro e w' ⟨rfl, ⟨nd, rfl⟩⟩
       refine ⟨_, rfl, ?_⟩
       refine hK.out _ _ ⟨bq_ BK272.out 0, bq_ BK272.out 1, bq_ BK294.out 0, bq_ BK294.out 1, bq_ BK294.out 2, bq_ BK294.out 3, hHeld.2.2.2.2.2.2⟩ (fun hHeld => ?_)
       clear hK K
       refine qn_ 49 ?_
       refine qp_ 8 10 ?_
       refine qd_ ?_
       try go_wp2
       (try (rw [drewN_self w46]; generalize hq_ : World.drewN w46 _ = w46; have n0_ : Aside0 (Kd.S k133 133 w46 w.heap.size (fun k_ => some k_ ≠ (.slice (some ad295) t288.length co31 : Value).ownBlock ∧ some k_ ≠ (.slice (some ad285) y269.length co24 : Value).ownBlock ∧ some k_ ≠ (.slice Ao22 x6_1.length co22 : Value).ownBlock ∧ k_ ≠ gb294) (.slice Ao47 x273000_1.length co47) x273000_1) := ⟨by rw [← hq_]; exact (by (with_reducible repeat first | apply Kd.S_alloc | apply Kd.S_drewN | apply Kd.S_drew); exact Kd.S_mono HO_273000.out (fun _ hk => ⟨hk.2.2.1, ⟨hk.1, ⟨hk.2.1, hk.2.2.2⟩⟩⟩))⟩; have n1_ : Aside0 (Kd.R Kd.string 9 w46 w.heap.size (fun k_ => some k_ ≠ (.slice (some ad285) y269.length co24 : Value).ownBlock ∧ some k_ ≠ (.slice Ao22 x6_1.length co22 : Value).ownBlock) (.slice (some ad295) t288.length co31) t288) := ⟨(zz119 HO_295002.out)⟩; have n2_ : Aside0 (Kd.R Kd.string 9 w46 w.heap.size (fun k_ => some k_ ≠ (.slice (some ad295) t288.length co31 : Value).ownBlock ∧ some k_ ≠ (.slice Ao22 x6_1.length co22 : Value).ownBlock) (.slice (some ad285) y269.length co24) y269) := ⟨by rw [← hq_]; exact (zz53 HO_3.out)⟩; have n3_ : Aside0 (Kd.R Kd.string 9 w46 w.heap.size (fun k_ => some k_ ≠ (.slice (some ad295) t288.length co31 : Value).ownBlock ∧ some k_ ≠ (.slice (some ad285) y269.length co24 : Value).ownBlock) (.slice Ao22 x6_1.length co22) x6_1) := ⟨by rw [← hq_]; exact (zz53 HO_6.out)⟩; have n4_ : Aside0 (w46.heap[gb268]? = some (.cells #[.slice none 0 0, .slice none 0 0] 108 (0, 0))) := ⟨(zz120 BK268.out)⟩; have n5_ : Aside0 (w46.heap[gb272]? = some (.cells #[.slice Ao47 x273000_1.length co47, .slice none 0 0] 108 (0, 0))) := ⟨(zz120 BK272.out)⟩; have n6_ : Aside0 (w46.heap[gb294]? = some (.cells #[.string (rdOf ByteArray.empty y269 x7_1), .int .i64 x295001_2, .slice (some ad295) t288.length co31, .bool (t292 == 0)] 133 (0, 0))) := ⟨(zz120 BK294.out)⟩; have n7_ : Aside0 (IsS120 w0 w46 g s0_0 t293) := ⟨by rw [← hq_]; exact (zz106 HI0.out NB0_268.out NB0_272.out NB0_294.out)⟩; have n8_ : Aside0 (KeepBut w w46 g none) := ⟨by rw [← hq_]; exact (zz107 GW268.out GW272.out GW294.out)⟩; have n9_ : Aside0 (Below w0.heap.size w0 w46) := ⟨by rw [← hq_]; exact (zz108 HI0.out GE268.out GE272.out GE294.out)⟩; clear HO_273000 HO_295002 HO_3 HO_6 BK268 BK272 BK294 HI0 HK HB hq_; have HO_273000 := n0_; have HO_295002 := n1_; have HO_3 := n2_; have HO_6 := n3_; have BK268 := n4_; have BK272 := n5_; have BK294 := n6_; have HI0 := n7_; have HK := n8_; have HB := n9_; clear n0_ n1_ n2_ n3_ n4_ n5_ n6_ n7_ n8_ n9_; (try (have hcq1_ : w46.cell? ⟨gb268, 0, none⟩ = some (.slice none 0 0) := bq_ BK268.out 0; have hfq1_ := blk_frozen BK268.out 0)); (try (have hcq2_ : w46.cell? ⟨gb268, 1, none⟩ = some (.slice none 0 0) := bq_ BK268.out 1; have hfq2_ := blk_frozen BK268.out 1)); (try (have hcq3_ : w46.cell? ⟨gb272, 0, none⟩ = some (.slice Ao47 x273000_1.length co47) := bq_ BK272.out 0; have hfq3_ := blk_frozen BK272.out 0)); (try (have hcq4_ : w46.cell? ⟨gb272, 1, none⟩ = some (.slice none 0 0) := bq_ BK272.out 1; have hfq4_ := blk_frozen BK272.out 1)); (try (have hcq5_ : w46.cell? ⟨gb294, 0, none⟩ = some (.string (rdOf ByteArray.empty y269 x7_1)) := bq_ BK294.out 0; have hfq5_ := blk_frozen BK294.out 0)); (try (have hcq6_ : w46.cell? ⟨gb294, 1, none⟩ = some (.int .i64 x295001_2) := bq_ BK294.out 1; have hfq6_ := blk_frozen BK294.out 1)); (try (have hcq7_ : w46.cell? ⟨gb294, 2, none⟩ = some (.slice (some ad295) t288.length co31) := bq_ BK294.out 2; have hfq7_ := blk_frozen BK294.out 2)); (try (have hcq8_ : w46.cell? ⟨gb294, 3, none⟩ = some (.bool (t292 == 0)) := bq_ BK294.out 3; have hfq8_ := blk_frozen BK294.out 3))))
       replace HO_3 := zA (Kd.R_drew HO_3.out); replace HO_6 := zA (Kd.R_drew HO_6.out); replace HO_273000 := zA (Kd.S_drew HO_273000.out); replace HO_295002 := zA (Kd.R_drew HO_295002.out); replace BK268 := zA (blk_drew BK268.out); replace BK272 := zA (blk_drew BK272.out); replace BK294 := zA (blk_drew BK294.out); replace HI0 := zA (IsS120.drew HI0.out); replace HK := zA zz96; replace HB := zA zz40
       have p297 : 0 ≤ (t296 : Int) := dz_
       have q297 : t296 < (x273000_1.length : Int) := dz_
       obtain ⟨ad297, A297_2, c297_2, e297, hx297_0, hx297_1, hx297_2, hx297_3, hl297_2, hi297_2⟩ := at_T133 (Kd.S_reads' HO_273000.out).2.2 t296 p297 q297
       cases e297
       obtain ⟨ce297, hce297, hMe297, hcc297⟩ := Kd.S_get HO_273000.out z133 t296 p297 (by first | exact q297 | exact of_decide_eq_true zz3 | (have e_ := (Kd.S_reads' HO_273000.out).1; omega))
       obtain ⟨ve297_2, rfl, ge297_2⟩ := k133_openM hMe297
       have hv297_2 := hcc297 2 _ rfl
       rw [add_field _ _ 2 (by omega)] at hv297_2
       replace hv297_2 := Option.some.inj (hv297_2.symm.trans hx297_2)
       rw [hv297_2] at ge297_2
       have HL297_2 := zA (show Kd.R Kd.string 9 _ _ _ _ ((rd_T133 x273000_1 t296).f2) from ge297_2); clear hv297_2 ge297_2 hcc297 hce297; have HR297_2 := zA hi297_2; have HC297_2 := zA hl297_2; clear hi297_2 hl297_2
       replace p297 := eq_true p297
       replace q297 := eq_true q297
       refine start_ (n := 11) (S := fun w' => w'.cell? ⟨gb294, 0, none⟩ = some (.string (rdOf ByteArray.empty y269 x7_1)) ∧ w'.cell? ⟨gb294, 1, none⟩ = some (.int .i64 x295001_2) ∧ w'.cell? ⟨gb294, 2, none⟩ = some (.slice (some ad295) t288.length co31) ∧ w'.cell? ⟨gb294, 3, none⟩ = some (.bool (t292 == 0)) ∧ w'.cell? ⟨gb272, 0, none⟩ = some (.slice (some ad297) x273000_1.length co47) ∧ w'.cell? ⟨gb272, 1, none⟩ = some (.slice none 0 0) ∧ w'.cell? (ad297.add ((t296).toNat * 4)) = some (.string ((rd_T133 x273000_1 t296).f0)) ∧ w'.cell? ⟨(ad297.add ((t296).toNat * 4)).block, (ad297.add ((t296).toNat * 4)).off + 1, none⟩ = some (.int .i64 ((rd_T133 x273000_1 t296).f1)) ∧ w'.cell? ⟨(ad297.add ((t296).toNat * 4)).block, (ad297.add ((t296).toNat * 4)).off + 2, none⟩ = some (.slice A297_2 ((rd_T133 x273000_1 t296).f2).length c297_2) ∧ w'.cell? ⟨(ad297.add ((t296).toNat * 4)).block, (ad297.add ((t296).toNat * 4)).off + 3, none⟩ = some (.bool ((rd_T133 x273000_1 t296).f3))) (ds := [10]) #[ff,ff,ff,ff,ff,ff,ff,ff,ff,ff,ff] (by kernel_rfl) rfl rfl ⟨bq_ BK294.out 0, bq_ BK294.out 1, bq_ BK294.out 2, bq_ BK294.out 3, bq_ BK272.out 0, bq_ BK272.out 1, hx297_0, hx297_1, hx297_2, hx297_3⟩ (fun hHeld => ?_); refine with_tabW spec_goodSuite.tab13 spec_goodSuite.bits13 (fun HT_ HW_ => ?_)
       generalize w46.drew = w48 at HO_3 HO_6 HO_273000 HO_295002 BK268 BK272 BK294 HI0 HK HB HL297_2 HR297_2 hx297_0 hx297_1 hx297_2 hx297_3 hHeld ⊢
       refine qp_ 0 50 ?_
       refine qp_ 2 52 ?_
       refine qp_ 4 54 ?_
       refine qt_ 1 51 ?_
       refine qt_ 3 53 ?_
       refine qp_ 5 55 ?_
       refine qp_ 6 56 ?_
       refine qt_ 7 57 ?_
       refine qp_ 8 58 ?_
       refine qp_ 9 59 ?_
       refine last_ (i := 10) (N := none) #[tt,tt,tt,tt,tt,tt,tt,tt,tt,tt,tt] rfl rfl (one_of HT_.out (by kernel_rfl)) (by decide) (fun K hK => ?_)
       have hs49 : w48.cell? ⟨gb294, 1, none⟩ = some (.int .i64 x295001_2) := bq_ BK294.out 1
       have hfs49 := blk_frozen BK294.out 1; have hns49_0 := NB268_294.out; have hns49_1 := NB272_294.out; have hms49_0 := NB294_268.out; have hms49_1 := NB294_272.out
       refine skip_ (w1 := ?_) (by rfl) rfl ?_ ?_
       rotate_left
       ·go_simp
        rfl
       refine hK.out _ _ ?_
       clear hK K
       refine qd_ ?_
       try go_wp2
       go_roundg k2
       case measure => have := HK1.out; have := HK2.out; omega
       case rel => exact ⟨(wrap64 (x9_2 + 1)), (ji41), zz9, H', ⟨(zz41 HK1.out HK2.out)⟩, ⟨by (with_reducible repeat first | apply Kd.R_alloc | apply Kd.R_drewN | apply Kd.R_drew); exact Kd.R_mono (Kd.R_far (p := ⟨gb294, 1, none⟩) (Kd.R_types HO_3.out BK294.out (by decide)) (fun _ hk => hk.2) (.int .i64 ji41)) (fun _ hk => by first | exact ⟨hk.1.1, hk.1.2⟩ | exact ⟨hk.1.2, hk.1.1⟩)⟩, ⟨by (with_reducible repeat first | apply Kd.R_alloc | apply Kd.R_drewN | apply Kd.R_drew); exact Kd.R_mono (Kd.R_far (p := ⟨gb294, 1, none⟩) (Kd.R_types HO_6.out BK294.out (by decide)) (fun _ hk => hk.2) (.int .i64 ji41)) (fun _ hk => by first | exact ⟨hk.1.1, hk.1.2⟩ | exact ⟨hk.1.2, hk.1.1⟩)⟩, ⟨by (with_reducible repeat first | apply Kd.S_alloc | apply Kd.S_drewN | apply Kd.S_drew); exact Kd.S_mono (Kd.S_far (p := ⟨gb294, 1, none⟩) (Kd.S_mono HO_273000.out (fun k_ hk => (⟨hk, hk.2.2.2⟩ : _ ∧ k_ ≠ gb294))) (fun _ hk => hk.2) (.int .i64 ji41)) (fun _ hk => by first | exact ⟨hk.1.1, hk.1.2.1, hk.1.2.2.1, hk.1.2.2.2⟩ | exact ⟨hk.1.1, hk.1.2.1, hk.1.2.2.2, hk.1.2.2.1⟩ | exact ⟨hk.1.1, hk.1.2.2.1, hk.1.2.1, hk.1.2.2.2⟩ | exact ⟨hk.1.1, hk.1.2.2.1, hk.1.2.2.2, hk.1.2.1⟩ | exact ⟨hk.1.1, hk.1.2.2.2, hk.1.2.1, hk.1.2.2.1⟩ | exact ⟨hk.1.1, hk.1.2.2.2, hk.1.2.2.1, hk.1.2.1⟩ | exact ⟨hk.1.2.1, hk.1.1, hk.1.2.2.1, hk.1.2.2.2⟩ | exact ⟨hk.1.2.1, hk.1.1, hk.1.2.2.2, hk.1.2.2.1⟩ | exact ⟨hk.1.2.1, hk.1.2.2.1, hk.1.1, hk.1.2.2.2⟩ | exact ⟨hk.1.2.1, hk.1.2.2.1, hk.1.2.2.2, hk.1.1⟩ | exact ⟨hk.1.2.1, hk.1.2.2.2, hk.1.1, hk.1.2.2.1⟩ | exact ⟨hk.1.2.1, hk.1.2.2.2, hk.1.2.2.1, hk.1.1⟩ | exact ⟨hk.1.2.2.1, hk.1.1, hk.1.2.1, hk.1.2.2.2⟩ | exact ⟨hk.1.2.2.1, hk.1.1, hk.1.2.2.2, hk.1.2.1⟩ | exact ⟨hk.1.2.2.1, hk.1.2.1, hk.1.1, hk.1.2.2.2⟩ | exact ⟨hk.1.2.2.1, hk.1.2.1, hk.1.2.2.2, hk.1.1⟩ | exact ⟨hk.1.2.2.1, hk.1.2.2.2, hk.1.1, hk.1.2.1⟩ | exact ⟨hk.1.2.2.1, hk.1.2.2.2, hk.1.2.1, hk.1.1⟩ | exact ⟨hk.1.2.2.2, hk.1.1, hk.1.2.1, hk.1.2.2.1⟩ | exact ⟨hk.1.2.2.2, hk.1.1, hk.1.2.2.1, hk.1.2.1⟩ | exact ⟨hk.1.2.2.2, hk.1.2.1, hk.1.1, hk.1.2.2.1⟩ | exact ⟨hk.1.2.2.2, hk.1.2.1, hk.1.2.2.1, hk.1.1⟩ | exact ⟨hk.1.2.2.2, hk.1.2.2.1, hk.1.1, hk.1.2.1⟩ | exact ⟨hk.1.2.2.2, hk.1.2.2.1, hk.1.2.1, hk.1.1⟩)⟩, ⟨by (with_reducible repeat first | apply Kd.R_alloc | apply Kd.R_drewN | apply Kd.R_drew); exact Kd.R_mono (Kd.R_far (p := ⟨gb294, 1, none⟩) (Kd.R_types HO_295002.out BK294.out (by decide)) (fun _ hk => hk.2) (.int .i64 ji41)) (fun _ hk => by first | exact ⟨hk.1.1, hk.1.2⟩ | exact ⟨hk.1.2, hk.1.1⟩)⟩, ⟨(zz121 NB268_294.out BK268.out)⟩, ⟨(zz121 NB272_294.out BK272.out)⟩, ⟨by (with_reducible repeat first | apply blk_drewN | apply blk_drew | apply blk_alloc); refine blk_put (cs := #[.string (rdOf ByteArray.empty y269 x7_1), .int .i64 x295001_2, .slice (some ad295) t288.length co31, .bool (t292 == 0)]) ?_ 1 _ rfl; (with_reducible repeat first | apply blk_drewN | apply blk_drew | apply blk_alloc); exact BK294.out⟩, ⟨(zz109 HI0.out NB0_268.out NB0_272.out NB0_294.out)⟩, ⟨(zz118 GW268.out GW272.out GW294.out)⟩, ⟨(zz110 HI0.out GE268.out GE272.out GE294.out)⟩⟩
      ·obtain ⟨c50, H⟩ := in_ H
       have LMc50 := zA c50; clear c50
       obtain ⟨y298, hy298⟩ : ∃ y_ : List (S133), y_ = (x273000_1 ++ [(⟨(rdOf ByteArray.empty y269 x7_1), x295001_2, t288, (t292 == 0)⟩ : S133)]) := ⟨_, rfl⟩
       replace H : (if x6_1.length < 8796093022208 then (spec_goodSuite.l0 k2 y269 t276 (x6_1 ++ [(rdOf ByteArray.empty y269 x7_1)]) (wrap64 (x7_1 + 1)) s0_0 t293 y298) else (none)) = some (r1, r2, r3) := (zz24 hy298)
       have Ny298 := zA hy298; clear hy298
       obtain ⟨c51, H⟩ := in_ H
       have LMc51 := zA c51; clear c51
       obtain ⟨y301, hy301⟩ : ∃ y_ : List ByteArray, y_ = (x6_1 ++ [(rdOf ByteArray.empty y269 x7_1)]) := ⟨_, rfl⟩
       replace H : (spec_goodSuite.l0 k2 y269 t276 y301 (wrap64 (x7_1 + 1)) s0_0 t293 y298) = some (r1, r2, r3) := (zz24 hy301)
       have Ny301 := zA hy301; clear hy301; have H' := zA H; clear H; have hnb52 := NB294_268.out; have hnc52 := NB268_294.out; have hnb53 := NB294_272.out; have hnc53 := NB272_294.out; have hnb54 := NB294_0.out; have hnc54 := NB0_294.out
       obtain ⟨hcz55_0, hcz55_1, hcz55_2, hcz55_3, hfz55_0, hfz55_1, hfz55_2, hfz55_3⟩ := bk4_ BK294.out; have hnb56 := NB272_268.out; have hnc56 := NB268_272.out; have hnb57 := NB272_0.out; have hnc57 := NB0_272.out
       obtain ⟨hcz58_0, hcz58_1, hfz58_0, hfz58_1⟩ := bk2_ BK272.out
       go_wp2_with (first | ((with_reducible refine gate_builtin (b := .append) (xs := #[.tmp 61, .tmp 63]) rfl ?_); at_builtin; refine Kd.S_append k133 w.heap.size rfl (.tmp 61) (.tmp 63) 105 133 (.agg #[(.string ⟨#[]⟩), (.int .i64 0), (.slice none 0 0), (.bool false)]) 56 rfl Try.underlying105 info133 rfl (by decide) (by omega) u273000 x273000_1 (⟨(rdOf ByteArray.empty y269 x7_1), x295001_2, t288, (t292 == 0)⟩ : S133) [.string (rdOf ByteArray.empty y269 x7_1), .int .i64 x295001_2, .slice Ao31 t288.length co31, .bool (t292 == 0)] (fun k_ => some k_ ≠ (.slice (some ad285) y269.length co24 : Value).ownBlock ∧ some k_ ≠ (.slice Ao22 x6_1.length co22 : Value).ownBlock ∧ k_ ≠ gb294) (fun k_ => some k_ = (.slice Ao31 t288.length co31 : Value).ownBlock) rfl rfl ?aP (fun k_ hk_ => ((Kd.R_mono (ok' := fun k_ => ((fun k_ => some k_ ≠ (.slice (some ad285) y269.length co24 : Value).ownBlock ∧ some k_ ≠ (.slice Ao22 x6_1.length co22 : Value).ownBlock ∧ k_ ≠ gb294)) k_ ∧ some k_ ≠ (u273000 : Value).ownBlock) (Kd.R_types (Kd.R_apart' (HO_295002.out) (Kd.S_typed HO_273000.out) (by decide)) BK294.out (by decide)) (fun k_ hk => ⟨⟨hk.1.1.1, ⟨hk.1.1.2, hk.2⟩⟩, hk.1.2⟩))).1 k_ hk_.symm) ?aF ?aO (Below.refl _ _) ?aS ?aL ?_; (case aP => exact k133_mkM _ _ _ (⟨(rdOf ByteArray.empty y269 x7_1), x295001_2, t288, (t292 == 0)⟩ : S133) (Kd.R_mono (Kd.R_tight rfl (Kd.R_mono (ok' := fun k_ => ((fun k_ => some k_ ≠ (.slice (some ad285) y269.length co24 : Value).ownBlock ∧ some k_ ≠ (.slice Ao22 x6_1.length co22 : Value).ownBlock ∧ k_ ≠ gb294)) k_ ∧ some k_ ≠ (u273000 : Value).ownBlock) (Kd.R_types (Kd.R_apart' (HO_295002.out) (Kd.S_typed HO_273000.out) (by decide)) BK294.out (by decide)) (fun k_ hk => ⟨⟨hk.1.1.1, ⟨hk.1.1.2, hk.2⟩⟩, hk.1.2⟩))) (fun _ h_ => h_))); (case aF => exact (fun k_ hk => ⟨Kd.fresh' (Kd.R_lt (zz22 HO_3.out)) k_ hk, Kd.fresh' (Kd.R_lt (zz22 HO_6.out)) k_ hk, Kd.freshB (g := gb294) (o := .cells #[.string (rdOf ByteArray.empty y269 x7_1), .int .i64 x295001_2, .slice Ao31 t288.length co31, .bool (t292 == 0)] 133 (0, 0)) (zz6 BK294.out) k_ hk⟩)); (case aO => exact (by (with_reducible repeat first | apply Kd.S_alloc | apply Kd.S_drewN | apply Kd.S_drew); exact Kd.S_mono HO_273000.out (fun k_ hk => ⟨⟨hk.1, ⟨hk.2.1, hk.2.2.2⟩⟩, fun e_ => hk.2.2.1 e_⟩))); (case aS => exact (keep_size (w := w) (g := g) (row := none) (zz107 GW268.out GW272.out GW294.out))); (case aL => have := LMc50.out; omega); intro v299 w59 ho hb hg hat; rw [← Ny298.out] at ho; replace HO_3 := zA (Kd.R_over' (zz22 HO_3.out) (Kd.S_typed (zz63 HO_273000.out)) (by decide) hg); replace HO_6 := zA (Kd.R_over' (zz22 HO_6.out) (Kd.S_typed (zz63 HO_273000.out)) (by decide) hg); replace BK268 := zA (blk_grown (g := gb268) (o := .cells #[.slice none 0 0, .slice none 0 0] 108 (0, 0)) (zz6 BK268.out) hg (Kd.S_ne HO_273000.out BK268.out (by decide))); replace BK272 := zA (blk_grown (g := gb272) (o := .cells #[u273000, .slice none 0 0] 108 (0, 0)) (zz6 BK272.out) hg (Kd.S_ne HO_273000.out BK272.out (by decide))); replace BK294 := zA (blk_grown (g := gb294) (o := .cells #[.string (rdOf ByteArray.empty y269 x7_1), .int .i64 x295001_2, .slice Ao31 t288.length co31, .bool (t292 == 0)] 133 (0, 0)) (zz6 BK294.out) hg (Kd.S_away HO_273000.out (fun _ hk => hk.2.2.2))); replace HB := zA (below_weaken (zz108 HI0.out GE268.out GE272.out GE294.out) HL.out hb); replace HI0 := zA (IsS120.grown (IsS120.same HI0.out (zz106 HI0.out NB0_268.out NB0_272.out NB0_294.out)) hg (IsS120.own_neS HI0.out HO_273000.out (by decide))); replace HK := zA (KeepBut.trans (zz107 GW268.out GW272.out GW294.out) (KeepBut.of_grown hg g) (Kd.S_base2 HO_273000.out)); have HO300 := zA (ho); clear HO_273000 HO_295002; clear ho hb hg hat; obtain ⟨Ao60, co60, eo60⟩ := Kd.S_slice HO300.out; subst eo60; obtain ⟨hcz61_0, hcz61_1, hfz61_0, hfz61_1⟩ := bk2_ BK272.out; obtain ⟨hcz62_0, hcz62_1, hcz62_2, hcz62_3, hfz62_0, hfz62_1, hfz62_2, hfz62_3⟩ := bk4_ BK294.out) | ((with_reducible refine gate_builtin (b := .append) (xs := #[.tmp 66, .tmp 69]) rfl ?_); at_builtin; refine Kd.R_append Kd.string w.heap.size rfl (.tmp 66) (.tmp 69) 31 9 (.string ⟨#[]⟩) 16 rfl Try.underlying31 info9 rfl (by decide) (by omega) (.slice Ao22 x6_1.length co22) x6_1 (rdOf ByteArray.empty y269 x7_1) [.string (rdOf ByteArray.empty y269 x7_1)] (fun k_ => some k_ ≠ (.slice (some ad285) y269.length co24 : Value).ownBlock) (fun _ => False) rfl zz32 ?aP (fun _ hk => hk.elim) ?aF ?aO (Below.refl _ _) ?aS ?aL ?_; (case aP => exact rfl); (case aF => exact (fun k_ hk => Kd.fresh' (Kd.R_lt (by (with_reducible repeat first | apply Kd.R_alloc | apply Kd.R_drewN | apply Kd.R_drew); exact (Kd.R_mono (Kd.R_far (p := ⟨gb272, 0, none⟩) (Kd.R_types HO_3.out BK272.out (by decide)) (fun _ hk => hk.2) (.slice Ao60 y298.length co60)) (fun _ h_ => h_.1)))) k_ hk)); (case aO => exact (by (with_reducible repeat first | apply Kd.R_alloc | apply Kd.R_drewN | apply Kd.R_drew); exact Kd.R_mono (Kd.R_far (p := ⟨gb272, 0, none⟩) (Kd.R_types HO_6.out BK272.out (by decide)) (fun _ hk => hk.2) (.slice Ao60 y298.length co60)) (fun _ hk => hk.1.1))); (case aS => exact (keep_size (w := w) (g := g) (row := none) (zz107 GW268.out GW272.out GW294.out))); (case aL => have := LMc51.out; omega); intro v302 w63 ho hb hg hat; rw [← Ny301.out] at ho; replace HO_3 := zA (Kd.R_after (ok := (fun _ => True)) (by (with_reducible repeat first | apply Kd.R_alloc | apply Kd.R_drewN | apply Kd.R_drew); exact Kd.R_mono (Kd.R_far (p := ⟨gb272, 0, none⟩) (Kd.R_types HO_3.out BK272.out (by decide)) (fun _ hk => hk.2) (.slice Ao60 y298.length co60)) (fun _ hk => ⟨trivial, hk.1.1⟩)) hg hat); replace BK268 := zA (blk_grown (g := gb268) (o := .cells #[.slice none 0 0, .slice none 0 0] 108 (0, 0)) (zz121 NB268_272.out BK268.out) hg (Kd.R_ne HO_6.out BK268.out (by decide))); replace BK294 := zA (blk_grown (g := gb294) (o := .cells #[.string (rdOf ByteArray.empty y269 x7_1), .int .i64 x295001_2, .slice Ao31 t288.length co31, .bool (t292 == 0)] 133 (0, 0)) (zz121 NB294_272.out BK294.out) hg (Kd.R_ne HO_6.out BK294.out (by decide))); replace HO300 := zA (Kd.S_after (ok := (fun k_ => some k_ ≠ (.slice (some ad285) y269.length co24 : Value).ownBlock ∧ k_ ≠ gb294)) (by (with_reducible repeat first | apply Kd.S_alloc | apply Kd.S_drewN | apply Kd.S_drew); exact Kd.S_mono (Kd.S_far (p := ⟨gb272, 0, none⟩) (Kd.S_types HO300.out BK272.out (by decide)) (fun _ hk => hk.2) (.slice Ao60 y298.length co60)) (fun _ hk => ⟨⟨hk.1.1, hk.1.2.2⟩, hk.1.2.1⟩)) hg hat); replace BK272 := zA (blk_grown (g := gb272) (o := .cells #[.slice Ao60 y298.length co60, .slice none 0 0] 108 (0, 0)) (by (with_reducible repeat first | apply blk_drewN | apply blk_drew | apply blk_alloc); refine blk_put (cs := #[u273000, .slice none 0 0]) ?_ 0 _ rfl; (with_reducible repeat first | apply blk_drewN | apply blk_drew | apply blk_alloc); exact BK272.out) hg (Kd.R_ne HO_6.out BK272.out (by decide))); replace HB := zA (below_weaken (zz108 HI0.out GE268.out GE272.out GE294.out) HL.out hb); replace HI0 := zA (IsS120.grown (IsS120.same HI0.out (zz106 HI0.out NB0_268.out NB0_272.out NB0_294.out)) hg (IsS120.own_ne HI0.out HO_6.out (by decide))); replace HK := zA (KeepBut.trans (zz107 GW268.out GW272.out GW294.out) (KeepBut.of_grown hg g) (Kd.R_base2 HO_6.out)); have HO303 := zA (ho); clear HO_6; clear ho hb hg hat))
       go_roundg k2
       case measure => have := HK1.out; have := HK2.out; omega
       case rel => exact ⟨(y301), (wrap64 (x7_1 + 1)), (t293), (y298), (.slice Ao60 y298.length co60), zz9, H', ⟨(zz41 HK1.out HK2.out)⟩, ⟨(zz94 HO_3.out)⟩, ⟨(zz22 HO303.out)⟩, ⟨by (with_reducible repeat first | apply Kd.S_alloc | apply Kd.S_drewN | apply Kd.S_drew); exact Kd.S_mono HO300.out (fun _ hk => by first | exact ⟨hk.1.1, hk.2⟩ | exact ⟨hk.2, hk.1.1⟩)⟩, ⟨(zz6 BK268.out)⟩, ⟨(zz6 BK272.out)⟩, ⟨(zz109 HI0.out NB0_268.out NB0_272.out NB0_294.out)⟩, ⟨(zz118 GW268.out GW272.out GW294.out)⟩, ⟨(zz110 HI0.out GE268.out GE272.out GE294.out)⟩⟩
   ·obtain ⟨⟨t281, t284⟩, A64, H⟩ := bs_ H
    (try dsimp only at H)
    simp only [Option.some.injEq, Prod.mk.injEq] at H
    obtain ⟨rfl, rfl, rfl⟩ := H
    obtain ⟨Ao65, co65, eo65⟩ := Kd.R_slice HO_6.out
    subst eo65
    go_wp2_with (((with_reducible refine gate_callee (f := 121) rfl ?_); refine goesL_ (some 73) rfl rfl Try.func121 (by kernel_rfl) rfl #[.pointer (some ⟨g, 0, none⟩), .slice Ao65 x6_1.length co65] rfl zz17 ?_; (with_reducible refine (spec_goodTests.calls k1 g s0_0 x1001_1 _ _ x6_1 t281 t284 w0 _ ?side1 ?side2 ?side3 ?side4 ?side5 A64.out).mono ?_); (case side1 => exact (zz88 HI0.out NB0_268.out NB0_272.out)); (case side2 => exact (zz89 HI0.out GE268.out GE272.out)); (case side3 => exact (zz20 HO_6.out)); (case side4 => exact (zz21 HO_6.out)); (case side5 => exact (zz34 HI0.out HO_6.out)); rintro e w66 ⟨v282, rfl, ho0, hi, hb, hk⟩; refine ⟨_, rfl, ?_⟩; replace HO_273000 := zA (Kd.S_mono (Kd.S_keep (IsS120.apartS (show IsS120 w0 _ g s0_0 _ from by repeat (first | (with_reducible first | exact HI0.out | apply IsS120.alloc | apply IsS120.drewN | apply IsS120.drew | apply IsS120.set_1 | refine IsS120.far ?_ NB0_268.out _ | refine IsS120.far ?_ NB0_272.out _) | exact HI0.out)) (zz63 HO_273000.out) (by decide)) hk (fun _ h => h.2)) (fun _ h => h.1)); replace BK268 := zA (zz90 BK268.out NB268_0.out); replace BK272 := zA (zz98 BK272.out NB272_0.out); have HO283 := zA (Kd.S_lower (Kd.S_new' (Kd.S_new' ho0 (Kd.R_lt (zz22 HO_3.out))) (Kd.R_lt (zz22 HO_6.out))) (keep_size (w := w) (g := g) (row := none) (zz84 GW268.out GW272.out))); replace HO_3 := zA (zz91 HI0.out NB0_268.out NB0_272.out HO_3.out); replace HO_6 := zA (zz91 HI0.out NB0_268.out NB0_272.out HO_6.out); replace HK := zA (zz92 GW268.out GW272.out); replace HB := zA (hb); replace HI0 := zA (hi); (try clear hb); (try clear hk); (try clear hi); (try clear ho0); obtain ⟨Ao67, co67, eo67⟩ := Kd.S_slice HO283.out; subst eo67; have hnb68 := NB272_268.out; have hnc68 := NB268_272.out; have hnb69 := NB272_0.out; have hnc69 := NB0_272.out; obtain ⟨hcz70_0, hcz70_1, hfz70_0, hfz70_1⟩ := bk2_ BK272.out; obtain ⟨Ao71, co71, eo71⟩ := Kd.S_slice HO_273000.out; subst eo71; have hnb72 := NB268_0.out; have hnc72 := NB0_268.out; obtain ⟨hcz73_0, hcz73_1, hfz73_0, hfz73_1⟩ := bk2_ BK268.out))
    refine bodyPost_ret (results_cell_row rfl _ _ gb268 108 #[.slice Ao71 x273000_1.length co71, .slice Ao67 t281.length co67] (0, 0) _ rfl (by (with_reducible repeat first | apply blk_drewN | apply blk_drew | apply blk_alloc); refine blk_put (cs := #[.slice Ao71 x273000_1.length co71, .slice none 0 0]) ?_ 1 _ rfl; (with_reducible repeat first | apply blk_drewN | apply blk_drew | apply blk_alloc); refine blk_put (cs := #[.slice none 0 0, .slice none 0 0]) ?_ 0 _ rfl; (with_reducible repeat first | apply blk_drewN | apply blk_drew | apply blk_alloc); refine blk_far ?_ NB268_272.out _; (with_reducible repeat first | apply blk_drewN | apply blk_drew | apply blk_alloc); exact BK268.out) Try.underlying108 rfl (by kernel_rfl)) rfl ?_
    exact ⟨_, _, zz14, by (with_reducible repeat first | apply Kd.S_alloc | apply Kd.S_drewN | apply Kd.S_drew); exact Kd.S_mono (Kd.S_far (p := ⟨gb268, 1, none⟩) (Kd.S_far (p := ⟨gb268, 0, none⟩) (Kd.S_far (p := ⟨gb272, 1, none⟩) (Kd.S_types (Kd.S_types HO_273000.out BK272.out (by decide)) BK268.out (by decide)) (fun _ hk => hk.1.2) (.slice Ao67 t281.length co67)) (fun _ hk => hk.2) (.slice Ao71 x273000_1.length co71)) (fun _ hk => hk.2) (.slice Ao67 t281.length co67)) (fun _ hk => trivial), by (with_reducible repeat first | apply Kd.S_alloc | apply Kd.S_drewN | apply Kd.S_drew); exact Kd.S_mono (Kd.S_far (p := ⟨gb268, 1, none⟩) (Kd.S_far (p := ⟨gb268, 0, none⟩) (Kd.S_far (p := ⟨gb272, 1, none⟩) (Kd.S_types (Kd.S_types HO283.out BK272.out (by decide)) BK268.out (by decide)) (fun _ hk => hk.1.2) (.slice Ao67 t281.length co67)) (fun _ hk => hk.2) (.slice Ao71 x273000_1.length co71)) (fun _ hk => hk.2) (.slice Ao67 t281.length co67)) (fun _ hk => trivial), (zz88 HI0.out NB0_268.out NB0_272.out), (zz89 HI0.out GE268.out GE272.out), (zz95 GW268.out GW272.out)⟩

end Go.Proofs.Ytieghkchhjailaa.S
