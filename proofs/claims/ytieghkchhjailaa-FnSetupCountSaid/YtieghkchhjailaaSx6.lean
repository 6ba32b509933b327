-- WRITTEN by wip/ext.py
import Derived.Test.YtieghkchhjailaaSx0
import Derived.Test.YtieghkchhjailaaSx1
import Derived.Test.YtieghkchhjailaaSx5
namespace Go.Proofs.Ytieghkchhjailaa.S
open Go.RowKit Go.Proofs.YtieghkchhjailaaW.PrintWords Go.Proofs.YtieghkchhjailaaW.PrintLast Go.Proofs.YtieghkchhjailaaW.PrintMore
attribute [local go_sem] max2_int min2_int max_two min_two max_three min_three max_four min_four   -- for this text's walks alone
set_option linter.unusedVariables false
set_option linter.unusedSimpArgs false

/-! ### spec_someSuite: function 101 -/
def spec_someSuite.f (k : Nat) (s0_0 : List Int) (s0_1 : Int) : Option ((List (S133)) × (List (S137)) × Int) := (spec_goodSuite.f k s0_0 s0_1).bind fun bt305 => (if (bt305.1.length : Int) > 0 then ((spec_reader_pick.f k s0_0 bt305.2.2 (bt305.1.length : Int)).bind fun bt313 => ((spec_reader_pick.f k s0_0 bt313.2 24).bind fun bt315 => (if bt315.1 = 0 then ((spec_reader_one.f k s0_0 bt315.2 (([(-1), 3, 2] : List Int))).bind fun bt320 => (if 0 ≤ bt313.1 then (if bt313.1 < (bt305.1.length : Int) then (some ((bt305.1.set (bt313.1 : Int).toNat (⟨(rd_T133 bt305.1 bt313.1).f0, bt320.1, (rd_T133 bt305.1 bt313.1).f2, (rd_T133 bt305.1 bt313.1).f3⟩ : S133)), bt305.2.1, bt320.2)) else (none)) else (none))) else (if bt315.1 = 1 then ((spec_reader_of.f k s0_0 bt315.2 (([(⟨#[100, 98]⟩ : ByteArray), (⟨#[97, 112, 112]⟩ : ByteArray), (⟨#[110, 111]⟩ : ByteArray), (⟨#[116, 109, 112]⟩ : ByteArray)] : List ByteArray))).bind fun bt326 => (if 0 ≤ bt313.1 then (if bt313.1 < (bt305.1.length : Int) then (some ((bt305.1.set (bt313.1 : Int).toNat (⟨(rd_T133 bt305.1 bt313.1).f0, (rd_T133 bt305.1 bt313.1).f1, (([bt326.1] : List ByteArray)), (rd_T133 bt305.1 bt313.1).f3⟩ : S133)), bt305.2.1, bt326.2)) else (none)) else (none))) else (if bt315.1 = 2 then ((spec_reader_of.f k s0_0 bt315.2 (([(⟨#[100, 98]⟩ : ByteArray), (⟨#[88]⟩ : ByteArray), (⟨#[110, 101, 119]⟩ : ByteArray)] : List ByteArray))).bind fun bt335 => (if 0 ≤ bt313.1 then (if bt313.1 < (bt305.1.length : Int) then (some ((bt305.1.set (bt313.1 : Int).toNat (⟨bt335.1, (rd_T133 bt305.1 bt313.1).f1, (rd_T133 bt305.1 bt313.1).f2, (rd_T133 bt305.1 bt313.1).f3⟩ : S133)), bt305.2.1, bt335.2)) else (none)) else (none))) else (some (bt305.1, bt305.2.1, bt315.2))))))) else (some (bt305.1, bt305.2.1, bt305.2.2)))
theorem spec_someSuite.mono : ∀ a0 a1 k, LeO (spec_someSuite.f k a0 a1) (spec_someSuite.f (k + 1) a0 a1) := by
 intro a0 a1 k
 unfold spec_someSuite.f
 repeat' first | (with_reducible first | exact spec_goodSuite.mono _ _ _ | exact spec_reader_of.mono _ _ _ _ | exact spec_reader_one.mono _ _ _ _ | exact spec_reader_pick.mono _ _ _ _ | exact le1_ | exact le2_ | apply LeO.ite | refine LeO.bind ?_ fun _ => ?_) | apply LeO.ite | refine LeO.bind ?_ fun _ => ?_
def spec_someSuite.T6 : Bool × List (List Nat × List Nat) := (true, [([], []), ([0], [0]), ([], []), ([], []), ([], []), ([3, 4], [3, 4]), ([1, 2, 0, 1, 2, 3, 4, 5], [1, 2]), ([6, 0, 1, 2, 3, 4, 5], [6]), ([7, 5, 5, 0, 1, 2, 3, 4, 5], [5, 7])])
def spec_someSuite.B6 : List Nat := [0, 1, 0, 0, 0, 24, 63, 127, 255]
theorem spec_someSuite.tab6 : rtab .any (opsOf Try.f101 6) = spec_someSuite.T6 := by kernel_rfl
theorem spec_someSuite.bits6 : waitsOk spec_someSuite.T6.2 spec_someSuite.B6 = true := by kernel_rfl
def spec_someSuite.T8 : Bool × List (List Nat × List Nat) := (true, [([], []), ([0], [0]), ([], []), ([], []), ([], []), ([3, 4], [3, 4]), ([5], [5]), ([1, 2, 0, 1, 2, 3, 4, 5, 6], [1, 2]), ([7, 0, 1, 2, 3, 4, 5, 6], [7]), ([8, 6, 5, 0, 1, 2, 3, 4, 5, 6], [6, 8])])
def spec_someSuite.B8 : List Nat := [0, 1, 0, 0, 0, 24, 56, 127, 255, 511]
theorem spec_someSuite.tab8 : rtab .any (opsOf Try.f101 8) = spec_someSuite.T8 := by kernel_rfl
theorem spec_someSuite.bits8 : waitsOk spec_someSuite.T8.2 spec_someSuite.B8 = true := by kernel_rfl
def spec_someSuite.T10 : Bool × List (List Nat × List Nat) := (true, [([], []), ([0], [0]), ([], []), ([], []), ([], []), ([3, 4], [3, 4]), ([1, 2, 0, 1, 2, 3, 4, 5], [1, 2]), ([6, 0, 1, 2, 3, 4, 5], [6]), ([7, 5, 5, 0, 1, 2, 3, 4, 5], [5, 7])])
def spec_someSuite.B10 : List Nat := [0, 1, 0, 0, 0, 24, 63, 127, 255]
theorem spec_someSuite.tab10 : rtab .any (opsOf Try.f101 10) = spec_someSuite.T10 := by kernel_rfl
theorem spec_someSuite.bits10 : waitsOk spec_someSuite.T10.2 spec_someSuite.B10 = true := by kernel_rfl
set_option maxHeartbeats 8000000 in
set_option maxRecDepth 100000 in
theorem spec_someSuite.calls (k : Nat) (g : Nat) (s0_0 : List Int) (s0_1 : Int) (r1 : List (S133)) (r2 : List (S137)) (r3 : Int) (w0 w : World) (hI : IsS120 w0 w g s0_0 s0_1) (hB : Below w0.heap.size w0 w) (h : spec_someSuite.f k s0_0 s0_1 = some (r1, r2, r3)) :
  Calls Try.prog 101 #[.pointer (some ⟨g, 0, none⟩)] w fun e w' => ∃ v0_ v1_ : Value, e = .returned (.agg #[v0_, v1_]) ∧ Kd.N k133 133 w' w.heap.size (fun k_ => (w.heap.size ≤ k_) ∧ some k_ ≠ (v1_ : Value).ownBlock) v0_ r1 ∧ Kd.N k137 137 w' w.heap.size (fun k_ => (w.heap.size ≤ k_) ∧ some k_ ≠ (v0_ : Value).ownBlock) v1_ r2 ∧ IsS120 w0 w' g s0_0 r3 ∧ Below w0.heap.size w0 w' ∧ KeepBut w w' g none := by
 have hu108 := Try.underlying108; have HI0 := zA hI; have HK := zA zz8; have HL := zA hB.size; clear hI; have HW0 := zA hB.size; have HB := zA hB; clear hB
 have H : ((spec_goodSuite.f k s0_0 s0_1).bind fun bt305 => (if (bt305.1.length : Int) > 0 then ((spec_reader_pick.f k s0_0 bt305.2.2 (bt305.1.length : Int)).bind fun bt313 => ((spec_reader_pick.f k s0_0 bt313.2 24).bind fun bt315 => (if bt315.1 = 0 then ((spec_reader_one.f k s0_0 bt315.2 (([(-1), 3, 2] : List Int))).bind fun bt320 => (if 0 ≤ bt313.1 then (if bt313.1 < (bt305.1.length : Int) then (some ((bt305.1.set (bt313.1 : Int).toNat (⟨(rd_T133 bt305.1 bt313.1).f0, bt320.1, (rd_T133 bt305.1 bt313.1).f2, (rd_T133 bt305.1 bt313.1).f3⟩ : S133)), bt305.2.1, bt320.2)) else (none)) else (none))) else (if bt315.1 = 1 then ((spec_reader_of.f k s0_0 bt315.2 (([(⟨#[100, 98]⟩ : ByteArray), (⟨#[97, 112, 112]⟩ : ByteArray), (⟨#[110, 111]⟩ : ByteArray), (⟨#[116, 109, 112]⟩ : ByteArray)] : List ByteArray))).bind fun bt326 => (if 0 ≤ bt313.1 then (if bt313.1 < (bt305.1.length : Int) then (some ((bt305.1.set (bt313.1 : Int).toNat (⟨(rd_T133 bt305.1 bt313.1).f0, (rd_T133 bt305.1 bt313.1).f1, (([bt326.1] : List ByteArray)), (rd_T133 bt305.1 bt313.1).f3⟩ : S133)), bt305.2.1, bt326.2)) else (none)) else (none))) else (if bt315.1 = 2 then ((spec_reader_of.f k s0_0 bt315.2 (([(⟨#[100, 98]⟩ : ByteArray), (⟨#[88]⟩ : ByteArray), (⟨#[110, 101, 119]⟩ : ByteArray)] : List ByteArray))).bind fun bt335 => (if 0 ≤ bt313.1 then (if bt313.1 < (bt305.1.length : Int) then (some ((bt305.1.set (bt313.1 : Int).toNat (⟨bt335.1, (rd_T133 bt305.1 bt313.1).f1, (rd_T133 bt305.1 bt313.1).f2, (rd_T133 bt305.1 bt313.1).f3⟩ : S133)), bt305.2.1, bt335.2)) else (none)) else (none))) else (some (bt305.1, bt305.2.1, bt315.2))))))) else (some (bt305.1, bt305.2.1, bt305.2.2)))) = some (r1, r2, r3) := h
 clear h
 obtain ⟨⟨t305, t308, t311⟩, A2, H⟩ := bs_ H
 (try dsimp only at H)
 rcases ie_ H with ⟨c3, H⟩ | ⟨c3, H⟩
 ·have c3b0 : decide (0 < (t305.length : Int)) = true := decide_eq_true c3
  have c3b1 : decide (0 < t305.length) = true := decide_eq_true (by omega)
  clear c3
  obtain ⟨⟨t313, t314⟩, A4, H⟩ := bs_ H
  (try dsimp only at H)
  obtain ⟨⟨t315, t316⟩, A5, H⟩ := bs_ H
  (try dsimp only at H)
  rcases ie_ H with ⟨c6, H⟩ | ⟨c6, H⟩
  ·have c6b0 : (t315 == 0) = true := beq_iff_eq.mpr c6
   have c6b1 : (t315 != 0) = false := bne_eq_false_iff_eq.mpr c6
   clear c6
   obtain ⟨y317, hy317⟩ : ∃ y_ : List Int, y_ = (([(-1), 3, 2] : List Int)) := ⟨_, rfl⟩
   replace H : ((spec_reader_one.f k s0_0 t316 y317).bind fun bt320 => (if 0 ≤ t313 then (if t313 < (t305.length : Int) then (some ((t305.set (t313 : Int).toNat (⟨(rd_T133 t305 t313).f0, bt320.1, (rd_T133 t305 t313).f2, (rd_T133 t305 t313).f3⟩ : S133)), t308, bt320.2)) else (none)) else (none))) = some (r1, r2, r3) := (zz24 hy317)
   have Ny317 := zA hy317; clear hy317
   obtain ⟨⟨t320, t321⟩, A7, H⟩ := bs_ H
   (try dsimp only at H)
   obtain ⟨c8b0, H⟩ := it_ H
   obtain ⟨c9b0, H⟩ := it_ H
   obtain ⟨y322, hy322⟩ : ∃ y_ : List (S133), y_ = (t305.set (t313 : Int).toNat (⟨(rd_T133 t305 t313).f0, t320, (rd_T133 t305 t313).f2, (rd_T133 t305 t313).f3⟩ : S133)) := ⟨_, rfl⟩
   replace H : (some (y322, t308, t321)) = some (r1, r2, r3) := (zz24 hy322)
   have Ny322 := zA hy322; clear hy322
   simp only [Option.some.injEq, Prod.mk.injEq] at H
   obtain ⟨rfl, rfl, rfl⟩ := H
   go_enter Try.func101, Try.ntmps101
   try go_wp2_with (first | ((with_reducible refine gate_dst (N := 2) rfl ?_); refine bx_ 2 #[.slice none 0 0, .slice none 0 0] 108 ?_; intro gb304 hg w11 hbox hb; replace HB := zA (zz30 HI0.out); have BK304 := zA (hbox); have GW304 := zA ((zz67 : w.heap.size ≤ gb304)); have GE304 := zA ((Nat.le_trans HW0.out (zz67 : w.heap.size ≤ gb304) : w0.heap.size ≤ gb304)); replace HK := zA zz29; have NB0_304 := zA (((zz68 HI0.out) : g ≠ gb304)); have NB304_0 := zA (((zz69 HI0.out) : gb304 ≠ g)); replace HI0 := zA (zz31 HI0.out); clear hb hbox hg) | ((with_reducible refine gate_callee (f := 107) rfl ?_); refine goesL_ (some 6) rfl rfl Try.func107 (by kernel_rfl) rfl #[.pointer (some ⟨g, 0, none⟩)] rfl zz17 ?_; (with_reducible refine (spec_goodSuite.calls k g s0_0 s0_1 t305 t308 t311 w0 _ ?side1 ?side2 A2.out).mono ?_); (case side1 => exact (zz75 HI0.out NB0_304.out)); (case side2 => exact (zz76 HI0.out GE304.out)); rintro e w12 ⟨v306, v309, rfl, ho0, ho1, hi, hb, hk⟩; refine ⟨_, rfl, ?_⟩; have HO307 := zA (zz122 ho0 ho1 GW304.out BK304.out HI0.out NB0_304.out); have HO310 := zA (zz123 ho1 ho0 GW304.out BK304.out HI0.out NB0_304.out); replace BK304 := zA (zz124 BK304.out NB304_0.out); replace HK := zA (zz125 GW304.out); replace HB := zA (hb); replace HI0 := zA (hi); (try clear hb); (try clear hk); (try clear hi); (try clear ho0); (try clear ho1)) | ((with_reducible refine gate_dst (N := 3) rfl ?_); refine bx_ 3 #[.slice none 0 0, .slice none 0 0] 108 ?_; intro gb312 hg w13 hbox hb; replace HO307 := zA (zz126 HO307.out); replace HO310 := zA (zz126 HO310.out); replace HB := zA (zz72 HI0.out GE304.out); have BK312 := zA (hbox); have GW312 := zA (((zz79 GW304.out) : w.heap.size ≤ gb312)); have GE312 := zA ((Nat.le_trans HW0.out ((zz79 GW304.out) : w.heap.size ≤ gb312) : w0.heap.size ≤ gb312)); replace HK := zA (zz71 GW304.out); have NB304_312 := zA (((zz127 BK304.out) : gb304 ≠ gb312)); have NB312_304 := zA (((zz128 BK304.out) : gb312 ≠ gb304)); replace BK304 := zA (zz129 BK304.out); have NB0_312 := zA (((zz82 HI0.out NB0_304.out) : g ≠ gb312)); have NB312_0 := zA (((zz83 HI0.out NB0_304.out) : gb312 ≠ g)); replace HI0 := zA (zz73 HI0.out NB0_304.out); clear hb hbox hg; obtain ⟨Ao14, co14, eo14⟩ := Kd.N_slice HO307.out; subst eo14; have hnb15 := NB312_304.out; have hnc15 := NB304_312.out; have hnb16 := NB312_0.out; have hnc16 := NB0_312.out; obtain ⟨hcz17_0, hcz17_1, hfz17_0, hfz17_1⟩ := bk2_ BK312.out; obtain ⟨Ao18, co18, eo18⟩ := Kd.N_slice HO310.out; subst eo18) | ((with_reducible refine gate_callee (f := 85) rfl ?_); refine goesL_ (some 15) rfl rfl Try.func85 (by kernel_rfl) rfl #[.pointer (some ⟨g, 0, none⟩), .int .i64 (t305.length : Int)] rfl zz17 ?_; (with_reducible refine (spec_reader_pick.calls k g s0_0 t311 (t305.length : Int) t313 t314 w0 _ ?side1 ?side2 A4.out).mono ?_); (case side1 => exact (zz88 HI0.out NB0_304.out NB0_312.out)); (case side2 => exact (zz89 HI0.out GE304.out GE312.out)); rintro e w19 ⟨rfl, hi, hb, hk⟩; refine ⟨_, rfl, ?_⟩; replace BK304 := zA (zz130 NB304_312.out BK304.out NB304_0.out); replace HO307 := zA (Kd.N_mono (Kd.N_keep (Kd.N_mono (ok := fun k_ => ((((w.heap.size ≤ k_)) ∧ (some k_ ≠ (.slice Ao18 t308.length co18 : Value).ownBlock ∧ (k_ ≠ gb304 ∧ k_ ≠ g))) ∧ k_ ≠ gb312)) (by (with_reducible repeat (first | apply Kd.N_alloc | apply Kd.N_drewN | apply Kd.N_drew)); exact (Kd.N_mono (Kd.N_far (p := ⟨gb312, 1, none⟩) (Kd.N_far (p := ⟨gb312, 0, none⟩) (Kd.N_mono HO307.out (fun k_ hk => (⟨hk, hk.2⟩ : _ ∧ k_ ≠ gb312))) (fun _ hk => hk.2) (.slice Ao14 t305.length co14)) (fun _ hk => hk.2) (.slice Ao18 t308.length co18)) (fun _ h_ => h_.1))) (fun k_ hk_ => (⟨hk_, hk_.1.2.2.2⟩ : _ ∧ k_ ≠ g))) hk (fun _ h => h.2)) (fun _ h => h.1)); replace HO310 := zA (Kd.N_mono (Kd.N_keep (Kd.N_mono (ok := fun k_ => ((((w.heap.size ≤ k_)) ∧ (some k_ ≠ (.slice Ao14 t305.length co14 : Value).ownBlock ∧ (k_ ≠ gb304 ∧ k_ ≠ g))) ∧ k_ ≠ gb312)) (by (with_reducible repeat (first | apply Kd.N_alloc | apply Kd.N_drewN | apply Kd.N_drew)); exact (Kd.N_mono (Kd.N_far (p := ⟨gb312, 1, none⟩) (Kd.N_far (p := ⟨gb312, 0, none⟩) (Kd.N_mono HO310.out (fun k_ hk => (⟨hk, hk.2⟩ : _ ∧ k_ ≠ gb312))) (fun _ hk => hk.2) (.slice Ao14 t305.length co14)) (fun _ hk => hk.2) (.slice Ao18 t308.length co18)) (fun _ h_ => h_.1))) (fun k_ hk_ => (⟨hk_, hk_.1.2.2.2⟩ : _ ∧ k_ ≠ g))) hk (fun _ h => h.2)) (fun _ h => h.1)); replace BK312 := zA (KeepBut.blk hk (g' := gb312) (o := .cells #[.slice Ao14 t305.length co14, .slice Ao18 t308.length co18] 108 (0, 0)) (by (with_reducible repeat first | apply blk_drewN | apply blk_drew | apply blk_alloc); refine blk_put (cs := #[.slice Ao14 t305.length co14, .slice none 0 0]) ?_ 1 _ rfl; (with_reducible repeat first | apply blk_drewN | apply blk_drew | apply blk_alloc); refine blk_put (cs := #[.slice none 0 0, .slice none 0 0]) ?_ 0 _ rfl; (with_reducible repeat first | apply blk_drewN | apply blk_drew | apply blk_alloc); exact BK312.out) NB312_0.out (by simp)); replace HK := zA (zz92 GW304.out GW312.out); replace HB := zA (hb); replace HI0 := zA (hi); (try clear hb); (try clear hk); (try clear hi)) | ((with_reducible refine gate_callee (f := 85) rfl ?_); refine goesL_ (some 17) rfl rfl Try.func85 (by kernel_rfl) rfl #[.pointer (some ⟨g, 0, none⟩), .int .i64 24] rfl zz17 ?_; (with_reducible refine (spec_reader_pick.calls k g s0_0 t314 24 t315 t316 w0 _ ?side1 ?side2 A5.out).mono ?_); (case side1 => exact (zz88 HI0.out NB0_304.out NB0_312.out)); (case side2 => exact (zz89 HI0.out GE304.out GE312.out)); rintro e w20 ⟨rfl, hi, hb, hk⟩; refine ⟨_, rfl, ?_⟩; replace BK304 := zA (zz124 BK304.out NB304_0.out); replace HO307 := zA (Kd.N_mono (Kd.N_keep (Kd.N_mono (ok := fun k_ => ((((w.heap.size ≤ k_)) ∧ (some k_ ≠ (.slice Ao18 t308.length co18 : Value).ownBlock ∧ (k_ ≠ gb304 ∧ k_ ≠ g))) ∧ k_ ≠ gb312)) (zz131 HO307.out) (fun k_ hk_ => (⟨hk_, hk_.1.2.2.2⟩ : _ ∧ k_ ≠ g))) hk (fun _ h => h.2)) (fun _ h => h.1)); replace HO310 := zA (Kd.N_mono (Kd.N_keep (Kd.N_mono (ok := fun k_ => ((((w.heap.size ≤ k_)) ∧ (some k_ ≠ (.slice Ao14 t305.length co14 : Value).ownBlock ∧ (k_ ≠ gb304 ∧ k_ ≠ g))) ∧ k_ ≠ gb312)) (zz131 HO310.out) (fun k_ hk_ => (⟨hk_, hk_.1.2.2.2⟩ : _ ∧ k_ ≠ g))) hk (fun _ h => h.2)) (fun _ h => h.1)); replace BK312 := zA (KeepBut.blk hk (g' := gb312) (o := .cells #[.slice Ao14 t305.length co14, .slice Ao18 t308.length co18] 108 (0, 0)) (zz6 BK312.out) NB312_0.out (by simp)); replace HK := zA (zz92 GW304.out GW312.out); replace HB := zA (hb); replace HI0 := zA (hi); (try clear hb); (try clear hk); (try clear hi)))
   replace HO307 := zA (Kd.N_drew HO307.out); replace HO310 := zA (Kd.N_drew HO310.out); replace BK304 := zA (blk_drew BK304.out); replace BK312 := zA (blk_drew BK312.out); replace HI0 := zA (IsS120.drew HI0.out); replace HK := zA zz96; replace HB := zA zz40
   refine start_ (n := 9) (S := fun w' => w'.cell? ⟨gb312, 0, none⟩ = some (.slice Ao14 t305.length co14) ∧ w'.cell? ⟨gb312, 1, none⟩ = some (.slice Ao18 t308.length co18)) (ds := [8]) #[ff,ff,ff,ff,ff,ff,ff,ff,ff] (by kernel_rfl) rfl rfl ⟨bq_ BK312.out 0, bq_ BK312.out 1⟩ (fun hHeld => ?_); refine with_tabW spec_someSuite.tab6 spec_someSuite.bits6 (fun HT_ HW_ => ?_)
   generalize w20.drew = w21 at HO307 HO310 BK304 BK312 HI0 HK HB hHeld ⊢
   refine qp_ 0 20 ?_
   refine qp_ 2 22 ?_
   refine qp_ 3 23 ?_
   refine qt_ 1 21 ?_
   refine qo_ 4 24 (fun K hK => ?_)
   refine Kd.R_lit_step (Kd.int .i64) _ 3 ?hg (N := 24) ?hd (xs := ([(-1), 3, 2] : List Int)) (inner := [.int .i64 (-1), .int .i64 3, .int .i64 2]) (ok := fun _ => True) (okp := fun _ => True) ?hr ?hp (fun _ hk => hk) trivial (Below.refl _ _) (Nat.le_refl _) (by simp) ?_; (case hd => rfl); (case hg => rfl); (case hr => exact zz32); (case hp => exact (Reps.one (show Kd.M (Kd.int .i64) _ _ _ (-1) [.int .i64 (-1)] from rfl) (Reps.one (show Kd.M (Kd.int .i64) _ _ _ 3 [.int .i64 3] from rfl) (Reps.one (show Kd.M (Kd.int .i64) _ _ _ 2 [.int .i64 2] from rfl) (Reps.none _ _)))))
   intro v318 w22 ho23 hb hg_ hnew_
   clear hg_ hnew_
   replace ho23 := ny_ Ny317.out ho23
   replace HO307 := zA (zz132 HO307.out ho23)
   replace HO310 := zA (zz132 HO310.out ho23)
   have HO319 := zA (zz133 ho23 GW304.out GW312.out)
   replace BK304 := zA (zz129 BK304.out)
   replace BK312 := zA (blk_below (g := gb312) (o := .cells #[.slice Ao14 t305.length co14, .slice Ao18 t308.length co18] 108 (0, 0)) (zz6 BK312.out) hb)
   replace HK := zA (zz86 GW304.out GW312.out)
   replace HB := zA (zz87 HI0.out GE304.out GE312.out)
   replace HI0 := zA (zz93 HI0.out NB0_304.out NB0_312.out)
   clear hb ho23
   obtain ⟨Ao24, co24, eo24⟩ := Kd.R_slice HO319.out
   (first | subst eo24 | (injection eo24 with f1_ f2_ f3_; have f4_ := f1_.symm; have f5_ := f3_.symm; clear f1_ f2_ f3_; subst f4_; subst f5_))
   refine hK.out _ _ ⟨bq_ BK312.out 0, bq_ BK312.out 1⟩ (fun hHeld => ?_)
   clear hK K
   refine qn_ 24 ?_
   refine qo_ 5 25 (fun K hK => ?_)
   refine goes_ Try.func95 (by kernel_rfl) rfl #[.pointer (some ⟨g, 0, none⟩), .slice Ao24 y317.length co24] (by rfl) rfl rfl zz17 ?_
   with_reducible refine (spec_reader_one.calls k g s0_0 t316 _ _ y317 t320 t321 w0 _ ?side1 ?side2 ?side3 ?side4 ?side5 A7.out).mono ?_
   (case side1 => exact (zz88 HI0.out NB0_304.out NB0_312.out))
   (case side2 => exact (zz89 HI0.out GE304.out GE312.out))
   (case side3 => exact (zz20 HO319.out))
   (case side4 => exact (zz21 HO319.out))
   (case side5 => exact (zz34 HI0.out HO319.out))
   rintro e w25 ⟨rfl, hi, hb, hk⟩
   refine ⟨_, rfl, ?_⟩
   replace BK304 := zA (zz124 BK304.out NB304_0.out)
   replace HO307 := zA (Kd.N_mono (Kd.N_keep (Kd.N_mono (ok := fun k_ => (((((w.heap.size ≤ k_)) ∧ (some k_ ≠ (.slice Ao18 t308.length co18 : Value).ownBlock ∧ (k_ ≠ gb304 ∧ k_ ≠ g))) ∧ k_ ≠ gb312) ∧ some k_ ≠ (.slice Ao24 y317.length co24 : Value).ownBlock)) (zz131 HO307.out) (fun k_ hk_ => (⟨hk_, hk_.1.1.2.2.2⟩ : _ ∧ k_ ≠ g))) hk (fun _ h => h.2)) (fun _ h => h.1))
   replace HO310 := zA (Kd.N_mono (Kd.N_keep (Kd.N_mono (ok := fun k_ => (((((w.heap.size ≤ k_)) ∧ (some k_ ≠ (.slice Ao14 t305.length co14 : Value).ownBlock ∧ (k_ ≠ gb304 ∧ k_ ≠ g))) ∧ k_ ≠ gb312) ∧ some k_ ≠ (.slice Ao24 y317.length co24 : Value).ownBlock)) (zz131 HO310.out) (fun k_ hk_ => (⟨hk_, hk_.1.1.2.2.2⟩ : _ ∧ k_ ≠ g))) hk (fun _ h => h.2)) (fun _ h => h.1))
   replace BK312 := zA (KeepBut.blk hk (g' := gb312) (o := .cells #[.slice Ao14 t305.length co14, .slice Ao18 t308.length co18] 108 (0, 0)) (zz6 BK312.out) NB312_0.out (by simp))
   replace HO319 := zA (zz91 HI0.out NB0_304.out NB0_312.out HO319.out)
   replace HK := zA (zz92 GW304.out GW312.out)
   replace HB := zA (hb)
   replace HI0 := zA (hi)
   (try clear hb)
   (try clear hb2)
   (try clear hk)
   (try clear hi)
   have p10 : 0 ≤ (t313 : Int) := dz_
   have q10 : (t313 : Int) < ((t305.length : Int) : Int) := dz_
   obtain ⟨go10, co10, eo10, gb10, gl10, cl10, HG10⟩ := Kd.N_form HO307.out (by omega)
   (first | cases eo10 | (injection eo10 with ea_ en_ ec_; (first | subst ea_ | (injection ea_ with ea_; subst ea_)); subst ec_; clear en_))
   have GB10 := zA gb10; have GG10 := zA HG10; clear gb10 gl10 HG10
   obtain ⟨ce10, hcl10, hM10, hcc10, hfr10⟩ := Kd.N_elem HO307.out z133 (t313 : Int) p10 q10
   obtain ⟨ua10_2, uc10_2, rfl, ul10_2, ge10_2⟩ := k133_openF hM10
   have hx10_0 : World.cell? _ ⟨go10, (t313 : Int).toNat * 4, none⟩ = some (.string ((rd_T133 t305 t313).f0)) := hcc10 0 _ rfl
   have hx10_1 : World.cell? _ ⟨go10, (t313 : Int).toNat * 4 + 1, none⟩ = some (.int .i64 ((rd_T133 t305 t313).f1)) := hcc10 1 _ rfl
   have hx10_2 : World.cell? _ ⟨go10, (t313 : Int).toNat * 4 + 2, none⟩ = some (.slice ua10_2 ((rd_T133 t305 t313).f2).length uc10_2) := hcc10 2 _ rfl
   have hx10_3 : World.cell? _ ⟨go10, (t313 : Int).toNat * 4 + 3, none⟩ = some (.bool ((rd_T133 t305 t313).f3)) := hcc10 3 _ rfl
   have hf10_0 : World.frozen? _ ⟨go10, (t313 : Int).toNat * 4, none⟩ = false := hfr10 0
   have hf10_1 : World.frozen? _ ⟨go10, (t313 : Int).toNat * 4 + 1, none⟩ = false := hfr10 1
   have hf10_2 : World.frozen? _ ⟨go10, (t313 : Int).toNat * 4 + 2, none⟩ = false := hfr10 2
   have hf10_3 : World.frozen? _ ⟨go10, (t313 : Int).toNat * 4 + 3, none⟩ = false := hfr10 3
   clear hcl10 hcc10 hfr10; (try clear hM10)
   replace p10 := eq_true p10
   replace q10 := eq_true q10
   have HN0_go10 := zA (show g ≠ go10 from by have h_ := IsS120.own_neN HI0.out HO307.out (by decide); intro e_; exact h_ (by rw [e_]; rfl))
   have HX26 := zA (show Kd.N k133 133 _ w.heap.size (fun k_ => (w.heap.size ≤ k_) ∧ some k_ ≠ (.slice Ao18 t308.length co18 : Value).ownBlock ∧ some k_ ≠ (.slice Ao24 y317.length co24 : Value).ownBlock ∧ k_ ≠ gb304 ∧ k_ ≠ gb312 ∧ k_ ≠ g) (.slice (some ⟨go10, 0, none⟩) t305.length co14) t305 from (Kd.N_mono (HO307.out) (fun k_ hk => ⟨hk.1.1.1, ⟨hk.1.1.2.1, ⟨hk.2, ⟨hk.1.1.2.2.1, ⟨hk.1.2, hk.1.1.2.2.2⟩⟩⟩⟩⟩)))
   obtain ⟨ce26, hcl26, hM26, hcc26, hfr26⟩ := Kd.N_elem HX26.out z133 (t313 : Int) (of_decide_eq_true zz3) (zz134 HO307.out)
   obtain ⟨ua26_2, uc26_2, rfl, ul26_2, ge26_2⟩ := k133_openF hM26
   have HP26 := (Kd.N_seg HX26.out (t313 : Int) (of_decide_eq_true zz3) (zz134 HO307.out) (seg := [.int .i64 t320]) (j := 1) hcl26 hcc26 (show 2 ≤ 4 from by decide) (x' := (⟨(rd_T133 t305 t313).f0, t320, (rd_T133 t305 t313).f2, (rd_T133 t305 t313).f3⟩ : S133)) (k133_mkF _ _ (⟨(rd_T133 t305 t313).f0, t320, (rd_T133 t305 t313).f2, (rd_T133 t305 t313).f3⟩ : S133) ul26_2 ge26_2) (fun _ hk => hk)).1
   rw [← Ny322.out] at HP26
   have HQ26 := zA HP26
   clear hcl26 hcc26 hfr26 HP26; (try clear hM26)
   refine hK.out _ _ ⟨bq_ BK312.out 0, bq_ BK312.out 1⟩ (fun hHeld => ?_)
   clear hK K
   refine qn_ 25 ?_
   refine qp_ 6 26 ?_
   refine qp_ 7 27 ?_
   refine last_ (i := 8) (N := none) #[tt,tt,tt,tt,tt,tt,tt,tt,tt] rfl rfl (one_of HT_.out (by kernel_rfl)) (by decide) (fun K hK => ?_)
   refine skip_ (w1 := ?_) (by rfl) rfl ?_ ?_
   rotate_left
   ·go_simp
    rfl
   refine hK.out _ _ ?_
   clear hK K
   refine qd_ ?_
   have n0_ : Aside0 (Kd.N k133 133 (w25.setCell ⟨go10, (t313 : Int).toNat * 4 + 1, none⟩ (.int .i64 t320)) w.heap.size (fun k_ => (w.heap.size ≤ k_) ∧ some k_ ≠ (.slice Ao18 t308.length co18 : Value).ownBlock ∧ some k_ ≠ (.slice Ao24 y317.length co24 : Value).ownBlock ∧ k_ ≠ gb304 ∧ k_ ≠ g ∧ k_ ≠ gb312) (.slice (some ⟨go10, 0, none⟩) t305.length co14) y322) := ⟨by (with_reducible repeat (first | apply Kd.N_alloc | apply Kd.N_drewN | apply Kd.N_drew)); exact Kd.N_mono HQ26.out (fun _ hk => ⟨hk.1, ⟨hk.2.1, ⟨hk.2.2.1, ⟨hk.2.2.2.1, ⟨hk.2.2.2.2.2, hk.2.2.2.2.1⟩⟩⟩⟩⟩)⟩
   have n1_ : Aside0 (Kd.N k137 137 (w25.setCell ⟨go10, (t313 : Int).toNat * 4 + 1, none⟩ (.int .i64 t320)) w.heap.size (fun k_ => (w.heap.size ≤ k_) ∧ some k_ ≠ (.slice (some ⟨go10, 0, none⟩) t305.length co14 : Value).ownBlock ∧ some k_ ≠ (.slice Ao24 y317.length co24 : Value).ownBlock ∧ k_ ≠ gb304 ∧ k_ ≠ g ∧ k_ ≠ gb312) (.slice Ao18 t308.length co18) t308) := ⟨by (with_reducible repeat (first | apply Kd.N_alloc | apply Kd.N_drewN | apply Kd.N_drew)); exact Kd.N_mono (Kd.N_far (p := ⟨go10, (t313 : Int).toNat * 4 + 1, none⟩) (Kd.N_mono HO310.out (fun k_ hk => (⟨hk, fun e_ => hk.1.1.2.1 (by rw [e_]; rfl)⟩ : _ ∧ k_ ≠ go10))) (fun _ hk => hk.2) (.int .i64 t320)) (fun _ hk => ⟨hk.1.1.1.1, ⟨hk.1.1.1.2.1, ⟨hk.1.2, ⟨hk.1.1.1.2.2.1, ⟨hk.1.1.1.2.2.2, hk.1.1.2⟩⟩⟩⟩⟩)⟩
   have n2_ : Aside0 (Kd.R (Kd.int .i64) 3 (w25.setCell ⟨go10, (t313 : Int).toNat * 4 + 1, none⟩ (.int .i64 t320)) w.heap.size (fun k_ => (w.heap.size ≤ k_)) (.slice Ao24 y317.length co24) y317) := ⟨by (with_reducible repeat first | apply Kd.R_alloc | apply Kd.R_drewN | apply Kd.R_drew); exact Kd.R_mono (Kd.R_far (p := ⟨go10, (t313 : Int).toNat * 4 + 1, none⟩) (Kd.R_types HO319.out GG10.out (by decide)) (fun _ hk => hk.2) (.int .i64 t320)) (fun _ hk => hk.1.1)⟩
   have n3_ : Aside0 ((w25.setCell ⟨go10, (t313 : Int).toNat * 4 + 1, none⟩ (.int .i64 t320)).heap[gb304]? = some (.cells #[.slice none 0 0, .slice none 0 0] 108 (0, 0))) := ⟨by (with_reducible repeat first | apply blk_drewN | apply blk_drew | apply blk_alloc); refine blk_far ?_ (by intro e_; first | exact (Kd.N_away HO307.out (fun _ hk => hk.1.1.2.2.1)) (by rw [e_]; rfl) | exact (Kd.N_away HO307.out (fun _ hk => hk.1.1.1.2.2.1)) (by rw [e_]; rfl) | exact (Kd.N_away HO307.out (fun _ hk => hk.1.1.2)) (by rw [e_]; rfl) | exact (Kd.N_away HO307.out (fun _ hk => hk.1.2)) (by rw [e_]; rfl) | exact (Kd.N_away HO307.out (fun _ hk => hk.1.1.1.1.2.2.1)) (by rw [e_]; rfl) | exact (Kd.N_away HO307.out (fun _ hk => hk.1.1.1.2)) (by rw [e_]; rfl) | exact (Kd.N_away HO307.out (fun _ hk => hk.1.1.1.2.1)) (by rw [e_]; rfl) | exact (Kd.N_away HO307.out (fun _ hk => hk.2)) (by rw [e_]; rfl) | exact (Kd.N_away HO307.out (fun _ hk => hk.2.1)) (by rw [e_]; rfl) | exact (Kd.N_away HO307.out (fun _ hk => hk.2.2.1)) (by rw [e_]; rfl)) _; (with_reducible repeat first | apply blk_drewN | apply blk_drew | apply blk_alloc); exact BK304.out⟩
   have n4_ : Aside0 ((w25.setCell ⟨go10, (t313 : Int).toNat * 4 + 1, none⟩ (.int .i64 t320)).heap[gb312]? = some (.cells #[.slice (some ⟨go10, 0, none⟩) t305.length co14, .slice Ao18 t308.length co18] 108 (0, 0))) := ⟨by (with_reducible repeat first | apply blk_drewN | apply blk_drew | apply blk_alloc); refine blk_far ?_ (by intro e_; first | exact (Kd.N_away HO307.out (fun _ hk => hk.1.2)) (by rw [e_]; rfl) | exact (Kd.N_away HO307.out (fun _ hk => hk.1.1.1.2.2.1)) (by rw [e_]; rfl) | exact (Kd.N_away HO307.out (fun _ hk => hk.1.1.2)) (by rw [e_]; rfl) | exact (Kd.N_away HO307.out (fun _ hk => hk.1.1.1.1.2.2.1)) (by rw [e_]; rfl) | exact (Kd.N_away HO307.out (fun _ hk => hk.1.1.1.2)) (by rw [e_]; rfl) | exact (Kd.N_away HO307.out (fun _ hk => hk.1.1.1.2.1)) (by rw [e_]; rfl) | exact (Kd.N_away HO307.out (fun _ hk => hk.2)) (by rw [e_]; rfl) | exact (Kd.N_away HO307.out (fun _ hk => hk.2.1)) (by rw [e_]; rfl) | exact (Kd.N_away HO307.out (fun _ hk => hk.2.2.1)) (by rw [e_]; rfl)) _; (with_reducible repeat first | apply blk_drewN | apply blk_drew | apply blk_alloc); exact BK312.out⟩
   have n5_ : Aside0 (IsS120 w0 (w25.setCell ⟨go10, (t313 : Int).toNat * 4 + 1, none⟩ (.int .i64 t320)) g s0_0 t321) := ⟨by repeat (first | (with_reducible first | exact HI0.out | apply IsS120.alloc | apply IsS120.drewN | apply IsS120.drew | apply IsS120.set_1 | refine IsS120.far ?_ HN0_go10.out _ | refine IsS120.far ?_ NB0_304.out _ | refine IsS120.far ?_ NB0_312.out _) | exact HI0.out)⟩
   have n6_ : Aside0 (KeepBut w (w25.setCell ⟨go10, (t313 : Int).toNat * 4 + 1, none⟩ (.int .i64 t320)) g none) := ⟨(zz118 GB10.out GW304.out GW312.out)⟩
   have n7_ : Aside0 (Below w0.heap.size w0 (w25.setCell ⟨go10, (t313 : Int).toNat * 4 + 1, none⟩ (.int .i64 t320))) := ⟨by repeat (first | (with_reducible first | exact HB.out | apply below_alloc | apply pw_below_drewN | apply below_drew1 | refine below_set ?_ (Nat.le_trans HL.out GB10.out) | refine below_set ?_ (IsS120.ge HI0.out) | refine below_set ?_ GE304.out | refine below_set ?_ GE312.out) | exact HB.out)⟩
   (try clear HO307)
   (try clear HO310)
   (try clear HO319)
   (try clear BK304)
   (try clear BK312)
   (try clear HI0)
   (try clear HK)
   (try clear HB)
   generalize (w25.setCell ⟨go10, (t313 : Int).toNat * 4 + 1, none⟩ (.int .i64 t320)) = w27 at n0_ n1_ n2_ n3_ n4_ n5_ n6_ n7_ ⊢
   have HO307 := n0_; have HO310 := n1_; have HO319 := n2_; have BK304 := n3_; have BK312 := n4_; have HI0 := n5_; have HK := n6_; have HB := n7_; clear n0_ n1_ n2_ n3_ n4_ n5_ n6_ n7_
   obtain ⟨hcz28_0, hcz28_1, hfz28_0, hfz28_1⟩ := bk2_ BK312.out; have hnb29 := NB304_0.out; have hnc29 := NB0_304.out
   obtain ⟨hcz30_0, hcz30_1, hfz30_0, hfz30_1⟩ := bk2_ BK304.out; try go_wp2
   refine bodyPost_ret (results_cell_row rfl _ _ gb304 108 #[.slice (some ⟨go10, 0, none⟩) t305.length co14, .slice Ao18 t308.length co18] (0, 0) _ rfl (by (with_reducible repeat first | apply blk_drewN | apply blk_drew | apply blk_alloc); refine blk_put (cs := #[.slice (some ⟨go10, 0, none⟩) t305.length co14, .slice none 0 0]) ?_ 1 _ rfl; (with_reducible repeat first | apply blk_drewN | apply blk_drew | apply blk_alloc); refine blk_put (cs := #[.slice none 0 0, .slice none 0 0]) ?_ 0 _ rfl; (with_reducible repeat first | apply blk_drewN | apply blk_drew | apply blk_alloc); exact BK304.out) Try.underlying108 rfl (by kernel_rfl)) rfl ?_
   exact ⟨_, _, zz14, by (with_reducible repeat (first | apply Kd.N_alloc | apply Kd.N_drewN | apply Kd.N_drew)); exact Kd.N_mono (Kd.N_far (p := ⟨gb304, 1, none⟩) (Kd.N_far (p := ⟨gb304, 0, none⟩) (Kd.N_mono HO307.out (fun k_ hk => (⟨hk, hk.2.2.2.1⟩ : _ ∧ k_ ≠ gb304))) (fun _ hk => hk.2) (.slice (some ⟨go10, 0, none⟩) t305.length co14)) (fun _ hk => hk.2) (.slice Ao18 t308.length co18)) (fun _ hk => ⟨hk.1.1, hk.1.2.1⟩), by (with_reducible repeat (first | apply Kd.N_alloc | apply Kd.N_drewN | apply Kd.N_drew)); exact Kd.N_mono (Kd.N_far (p := ⟨gb304, 1, none⟩) (Kd.N_far (p := ⟨gb304, 0, none⟩) (Kd.N_mono HO310.out (fun k_ hk => (⟨hk, hk.2.2.2.1⟩ : _ ∧ k_ ≠ gb304))) (fun _ hk => hk.2) (.slice (some ⟨go10, 0, none⟩) t305.length co14)) (fun _ hk => hk.2) (.slice Ao18 t308.length co18)) (fun _ hk => ⟨hk.1.1, hk.1.2.1⟩), (zz88 HI0.out NB0_304.out NB0_312.out), (zz89 HI0.out GE304.out GE312.out), (zz95 GW304.out GW312.out)⟩
  ·have c6b0 : (t315 == 0) = false := beq_eq_false_iff_ne.mpr c6
   have c6b1 : (t315 != 0) = true := bne_iff_ne.mpr c6
   rcases ie_ H with ⟨c31, H⟩ | ⟨c31, H⟩
   ·have c31b0 : (t315 == 1) = true := beq_iff_eq.mpr c31
    have c31b1 : (t315 != 1) = false := bne_eq_false_iff_eq.mpr c31
    clear c31
    obtain ⟨y323, hy323⟩ : ∃ y_ : List ByteArray, y_ = (([(⟨#[100, 98]⟩ : ByteArray), (⟨#[97, 112, 112]⟩ : ByteArray), (⟨#[110, 111]⟩ : ByteArray), (⟨#[116, 109, 112]⟩ : ByteArray)] : List ByteArray)) := ⟨_, rfl⟩
    replace H : ((spec_reader_of.f k s0_0 t316 y323).bind fun bt326 => (if 0 ≤ t313 then (if t313 < (t305.length : Int) then (some ((t305.set (t313 : Int).toNat (⟨(rd_T133 t305 t313).f0, (rd_T133 t305 t313).f1, (([bt326.1] : List ByteArray)), (rd_T133 t305 t313).f3⟩ : S133)), t308, bt326.2)) else (none)) else (none))) = some (r1, r2, r3) := (zz24 hy323)
    have Ny323 := zA hy323; clear hy323
    obtain ⟨⟨t326, t327⟩, A32, H⟩ := bs_ H
    (try dsimp only at H)
    obtain ⟨y328, hy328⟩ : ∃ y_ : List ByteArray, y_ = (([t326] : List ByteArray)) := ⟨_, rfl⟩
    replace H : (if 0 ≤ t313 then (if t313 < (t305.length : Int) then (some ((t305.set (t313 : Int).toNat (⟨(rd_T133 t305 t313).f0, (rd_T133 t305 t313).f1, y328, (rd_T133 t305 t313).f3⟩ : S133)), t308, t327)) else (none)) else (none)) = some (r1, r2, r3) := (zz24 hy328)
    have Ny328 := zA hy328; clear hy328
    obtain ⟨c33b0, H⟩ := it_ H
    obtain ⟨c34b0, H⟩ := it_ H
    obtain ⟨y331, hy331⟩ : ∃ y_ : List (S133), y_ = (t305.set (t313 : Int).toNat (⟨(rd_T133 t305 t313).f0, (rd_T133 t305 t313).f1, y328, (rd_T133 t305 t313).f3⟩ : S133)) := ⟨_, rfl⟩
    replace H : (some (y331, t308, t327)) = some (r1, r2, r3) := (zz24 hy331)
    have Ny331 := zA hy331; clear hy331
    simp only [Option.some.injEq, Prod.mk.injEq] at H
    obtain ⟨rfl, rfl, rfl⟩ := H
    go_enter Try.func101, Try.ntmps101
    try go_wp2_with (first | ((with_reducible refine gate_dst (N := 2) rfl ?_); refine bx_ 2 #[.slice none 0 0, .slice none 0 0] 108 ?_; intro gb304 hg w36 hbox hb; replace HB := zA (zz30 HI0.out); have BK304 := zA (hbox); have GW304 := zA ((zz67 : w.heap.size ≤ gb304)); have GE304 := zA ((Nat.le_trans HW0.out (zz67 : w.heap.size ≤ gb304) : w0.heap.size ≤ gb304)); replace HK := zA zz29; have NB0_304 := zA (((zz68 HI0.out) : g ≠ gb304)); have NB304_0 := zA (((zz69 HI0.out) : gb304 ≠ g)); replace HI0 := zA (zz31 HI0.out); clear hb hbox hg) | ((with_reducible refine gate_callee (f := 107) rfl ?_); refine goesL_ (some 6) rfl rfl Try.func107 (by kernel_rfl) rfl #[.pointer (some ⟨g, 0, none⟩)] rfl zz17 ?_; (with_reducible refine (spec_goodSuite.calls k g s0_0 s0_1 t305 t308 t311 w0 _ ?side1 ?side2 A2.out).mono ?_); (case side1 => exact (zz75 HI0.out NB0_304.out)); (case side2 => exact (zz76 HI0.out GE304.out)); rintro e w37 ⟨v306, v309, rfl, ho0, ho1, hi, hb, hk⟩; refine ⟨_, rfl, ?_⟩; have HO307 := zA (zz122 ho0 ho1 GW304.out BK304.out HI0.out NB0_304.out); have HO310 := zA (zz123 ho1 ho0 GW304.out BK304.out HI0.out NB0_304.out); replace BK304 := zA (zz124 BK304.out NB304_0.out); replace HK := zA (zz125 GW304.out); replace HB := zA (hb); replace HI0 := zA (hi); (try clear hb); (try clear hk); (try clear hi); (try clear ho0); (try clear ho1)) | ((with_reducible refine gate_dst (N := 3) rfl ?_); refine bx_ 3 #[.slice none 0 0, .slice none 0 0] 108 ?_; intro gb312 hg w38 hbox hb; replace HO307 := zA (zz126 HO307.out); replace HO310 := zA (zz126 HO310.out); replace HB := zA (zz72 HI0.out GE304.out); have BK312 := zA (hbox); have GW312 := zA (((zz79 GW304.out) : w.heap.size ≤ gb312)); have GE312 := zA ((Nat.le_trans HW0.out ((zz79 GW304.out) : w.heap.size ≤ gb312) : w0.heap.size ≤ gb312)); replace HK := zA (zz71 GW304.out); have NB304_312 := zA (((zz127 BK304.out) : gb304 ≠ gb312)); have NB312_304 := zA (((zz128 BK304.out) : gb312 ≠ gb304)); replace BK304 := zA (zz129 BK304.out); have NB0_312 := zA (((zz82 HI0.out NB0_304.out) : g ≠ gb312)); have NB312_0 := zA (((zz83 HI0.out NB0_304.out) : gb312 ≠ g)); replace HI0 := zA (zz73 HI0.out NB0_304.out); clear hb hbox hg; obtain ⟨Ao39, co39, eo39⟩ := Kd.N_slice HO307.out; subst eo39; have hnb40 := NB312_304.out; have hnc40 := NB304_312.out; have hnb41 := NB312_0.out; have hnc41 := NB0_312.out; obtain ⟨hcz42_0, hcz42_1, hfz42_0, hfz42_1⟩ := bk2_ BK312.out; obtain ⟨Ao43, co43, eo43⟩ := Kd.N_slice HO310.out; subst eo43) | ((with_reducible refine gate_callee (f := 85) rfl ?_); refine goesL_ (some 15) rfl rfl Try.func85 (by kernel_rfl) rfl #[.pointer (some ⟨g, 0, none⟩), .int .i64 (t305.length : Int)] rfl zz17 ?_; (with_reducible refine (spec_reader_pick.calls k g s0_0 t311 (t305.length : Int) t313 t314 w0 _ ?side1 ?side2 A4.out).mono ?_); (case side1 => exact (zz88 HI0.out NB0_304.out NB0_312.out)); (case side2 => exact (zz89 HI0.out GE304.out GE312.out)); rintro e w44 ⟨rfl, hi, hb, hk⟩; refine ⟨_, rfl, ?_⟩; replace BK304 := zA (zz130 NB304_312.out BK304.out NB304_0.out); replace HO307 := zA (Kd.N_mono (Kd.N_keep (Kd.N_mono (ok := fun k_ => ((((w.heap.size ≤ k_)) ∧ (some k_ ≠ (.slice Ao43 t308.length co43 : Value).ownBlock ∧ (k_ ≠ gb304 ∧ k_ ≠ g))) ∧ k_ ≠ gb312)) (by (with_reducible repeat (first | apply Kd.N_alloc | apply Kd.N_drewN | apply Kd.N_drew)); exact (Kd.N_mono (Kd.N_far (p := ⟨gb312, 1, none⟩) (Kd.N_far (p := ⟨gb312, 0, none⟩) (Kd.N_mono HO307.out (fun k_ hk => (⟨hk, hk.2⟩ : _ ∧ k_ ≠ gb312))) (fun _ hk => hk.2) (.slice Ao39 t305.length co39)) (fun _ hk => hk.2) (.slice Ao43 t308.length co43)) (fun _ h_ => h_.1))) (fun k_ hk_ => (⟨hk_, hk_.1.2.2.2⟩ : _ ∧ k_ ≠ g))) hk (fun _ h => h.2)) (fun _ h => h.1)); replace HO310 := zA (Kd.N_mono (Kd.N_keep (Kd.N_mono (ok := fun k_ => ((((w.heap.size ≤ k_)) ∧ (some k_ ≠ (.slice Ao39 t305.length co39 : Value).ownBlock ∧ (k_ ≠ gb304 ∧ k_ ≠ g))) ∧ k_ ≠ gb312)) (by (with_reducible repeat (first | apply Kd.N_alloc | apply Kd.N_drewN | apply Kd.N_drew)); exact (Kd.N_mono (Kd.N_far (p := ⟨gb312, 1, none⟩) (Kd.N_far (p := ⟨gb312, 0, none⟩) (Kd.N_mono HO310.out (fun k_ hk => (⟨hk, hk.2⟩ : _ ∧ k_ ≠ gb312))) (fun _ hk => hk.2) (.slice Ao39 t305.length co39)) (fun _ hk => hk.2) (.slice Ao43 t308.length co43)) (fun _ h_ => h_.1))) (fun k_ hk_ => (⟨hk_, hk_.1.2.2.2⟩ : _ ∧ k_ ≠ g))) hk (fun _ h => h.2)) (fun _ h => h.1)); replace BK312 := zA (KeepBut.blk hk (g' := gb312) (o := .cells #[.slice Ao39 t305.length co39, .slice Ao43 t308.length co43] 108 (0, 0)) (by (with_reducible repeat first | apply blk_drewN | apply blk_drew | apply blk_alloc); refine blk_put (cs := #[.slice Ao39 t305.length co39, .slice none 0 0]) ?_ 1 _ rfl; (with_reducible repeat first | apply blk_drewN | apply blk_drew | apply blk_alloc); refine blk_put (cs := #[.slice none 0 0, .slice none 0 0]) ?_ 0 _ rfl; (with_reducible repeat first | apply blk_drewN | apply blk_drew | apply blk_alloc); exact BK312.out) NB312_0.out (by simp)); replace HK := zA (zz92 GW304.out GW312.out); replace HB := zA (hb); replace HI0 := zA (hi); (try clear hb); (try clear hk); (try clear hi)) | ((with_reducible refine gate_callee (f := 85) rfl ?_); refine goesL_ (some 17) rfl rfl Try.func85 (by kernel_rfl) rfl #[.pointer (some ⟨g, 0, none⟩), .int .i64 24] rfl zz17 ?_; (with_reducible refine (spec_reader_pick.calls k g s0_0 t314 24 t315 t316 w0 _ ?side1 ?side2 A5.out).mono ?_); (case side1 => exact (zz88 HI0.out NB0_304.out NB0_312.out)); (case side2 => exact (zz89 HI0.out GE304.out GE312.out)); rintro e w45 ⟨rfl, hi, hb, hk⟩; refine ⟨_, rfl, ?_⟩; replace BK304 := zA (zz124 BK304.out NB304_0.out); replace HO307 := zA (Kd.N_mono (Kd.N_keep (Kd.N_mono (ok := fun k_ => ((((w.heap.size ≤ k_)) ∧ (some k_ ≠ (.slice Ao43 t308.length co43 : Value).ownBlock ∧ (k_ ≠ gb304 ∧ k_ ≠ g))) ∧ k_ ≠ gb312)) (zz131 HO307.out) (fun k_ hk_ => (⟨hk_, hk_.1.2.2.2⟩ : _ ∧ k_ ≠ g))) hk (fun _ h => h.2)) (fun _ h => h.1)); replace HO310 := zA (Kd.N_mono (Kd.N_keep (Kd.N_mono (ok := fun k_ => ((((w.heap.size ≤ k_)) ∧ (some k_ ≠ (.slice Ao39 t305.length co39 : Value).ownBlock ∧ (k_ ≠ gb304 ∧ k_ ≠ g))) ∧ k_ ≠ gb312)) (zz131 HO310.out) (fun k_ hk_ => (⟨hk_, hk_.1.2.2.2⟩ : _ ∧ k_ ≠ g))) hk (fun _ h => h.2)) (fun _ h => h.1)); replace BK312 := zA (KeepBut.blk hk (g' := gb312) (o := .cells #[.slice Ao39 t305.length co39, .slice Ao43 t308.length co43] 108 (0, 0)) (zz6 BK312.out) NB312_0.out (by simp)); replace HK := zA (zz92 GW304.out GW312.out); replace HB := zA (hb); replace HI0 := zA (hi); (try clear hb); (try clear hk); (try clear hi)))
    replace HO307 := zA (Kd.N_drew HO307.out); replace HO310 := zA (Kd.N_drew HO310.out); replace BK304 := zA (blk_drew BK304.out); replace BK312 := zA (blk_drew BK312.out); replace HI0 := zA (IsS120.drew HI0.out); replace HK := zA zz96; replace HB := zA zz40
    refine start_ (n := 10) (S := fun w' => w'.cell? ⟨gb312, 0, none⟩ = some (.slice Ao39 t305.length co39) ∧ w'.cell? ⟨gb312, 1, none⟩ = some (.slice Ao43 t308.length co43)) (ds := [9]) #[ff,ff,ff,ff,ff,ff,ff,ff,ff,ff] (by kernel_rfl) rfl rfl ⟨bq_ BK312.out 0, bq_ BK312.out 1⟩ (fun hHeld => ?_); refine with_tabW spec_someSuite.tab8 spec_someSuite.bits8 (fun HT_ HW_ => ?_)
    generalize w45.drew = w46 at HO307 HO310 BK304 BK312 HI0 HK HB hHeld ⊢
    refine qp_ 0 30 ?_
    refine qp_ 2 32 ?_
    refine qp_ 3 33 ?_
    refine qt_ 1 31 ?_
    refine qo_ 4 34 (fun K hK => ?_)
    refine Kd.R_lit_step Kd.string _ 9 ?hg (N := 34) ?hd (xs := ([(⟨#[100, 98]⟩ : ByteArray), (⟨#[97, 112, 112]⟩ : ByteArray), (⟨#[110, 111]⟩ : ByteArray), (⟨#[116, 109, 112]⟩ : ByteArray)] : List ByteArray)) (inner := [.string (⟨#[100, 98]⟩ : ByteArray), .string (⟨#[97, 112, 112]⟩ : ByteArray), .string (⟨#[110, 111]⟩ : ByteArray), .string (⟨#[116, 109, 112]⟩ : ByteArray)]) (ok := fun _ => True) (okp := fun _ => True) ?hr ?hp (fun _ hk => hk) trivial (Below.refl _ _) (Nat.le_refl _) (by simp) ?_; (case hd => rfl); (case hg => rfl); (case hr => exact zz32); (case hp => exact (Reps.one (show Kd.M Kd.string _ _ _ (⟨#[100, 98]⟩ : ByteArray) [.string (⟨#[100, 98]⟩ : ByteArray)] from rfl) (Reps.one (show Kd.M Kd.string _ _ _ (⟨#[97, 112, 112]⟩ : ByteArray) [.string (⟨#[97, 112, 112]⟩ : ByteArray)] from rfl) (Reps.one (show Kd.M Kd.string _ _ _ (⟨#[110, 111]⟩ : ByteArray) [.string (⟨#[110, 111]⟩ : ByteArray)] from rfl) (Reps.one (show Kd.M Kd.string _ _ _ (⟨#[116, 109, 112]⟩ : ByteArray) [.string (⟨#[116, 109, 112]⟩ : ByteArray)] from rfl) (Reps.none _ _))))))
    intro v324 w47 ho48 hb hg_ hnew_
    clear hg_ hnew_
    replace ho48 := ny_ Ny323.out ho48
    replace HO307 := zA (zz132 HO307.out ho48)
    replace HO310 := zA (zz132 HO310.out ho48)
    have HO325 := zA (zz133 ho48 GW304.out GW312.out)
    replace BK304 := zA (zz129 BK304.out)
    replace BK312 := zA (blk_below (g := gb312) (o := .cells #[.slice Ao39 t305.length co39, .slice Ao43 t308.length co43] 108 (0, 0)) (zz6 BK312.out) hb)
    replace HK := zA (zz86 GW304.out GW312.out)
    replace HB := zA (zz87 HI0.out GE304.out GE312.out)
    replace HI0 := zA (zz93 HI0.out NB0_304.out NB0_312.out)
    clear hb ho48
    obtain ⟨Ao49, co49, eo49⟩ := Kd.R_slice HO325.out
    (first | subst eo49 | (injection eo49 with f1_ f2_ f3_; have f4_ := f1_.symm; have f5_ := f3_.symm; clear f1_ f2_ f3_; subst f4_; subst f5_))
    refine hK.out _ _ ⟨bq_ BK312.out 0, bq_ BK312.out 1⟩ (fun hHeld => ?_)
    clear hK K
    refine qn_ 34 ?_
    refine qo_ 5 35 (fun K hK => ?_)
    refine goes_ Try.func87 (by kernel_rfl) rfl #[.pointer (some ⟨g, 0, none⟩), .slice Ao49 y323.length co49] (by rfl) rfl rfl zz17 ?_
    with_reducible refine (spec_reader_of.calls k g s0_0 t316 _ _ y323 t326 t327 w0 _ ?side1 ?side2 ?side3 ?side4 ?side5 A32.out).mono ?_
    (case side1 => exact (zz88 HI0.out NB0_304.out NB0_312.out))
    (case side2 => exact (zz89 HI0.out GE304.out GE312.out))
    (case side3 => exact (zz20 HO325.out))
    (case side4 => exact (zz21 HO325.out))
    (case side5 => exact (zz34 HI0.out HO325.out))
    rintro e w50 ⟨rfl, hi, hb, hk⟩
    refine ⟨_, rfl, ?_⟩
    replace BK304 := zA (zz124 BK304.out NB304_0.out)
    replace HO307 := zA (Kd.N_mono (Kd.N_keep (Kd.N_mono (ok := fun k_ => (((((w.heap.size ≤ k_)) ∧ (some k_ ≠ (.slice Ao43 t308.length co43 : Value).ownBlock ∧ (k_ ≠ gb304 ∧ k_ ≠ g))) ∧ k_ ≠ gb312) ∧ some k_ ≠ (.slice Ao49 y323.length co49 : Value).ownBlock)) (zz131 HO307.out) (fun k_ hk_ => (⟨hk_, hk_.1.1.2.2.2⟩ : _ ∧ k_ ≠ g))) hk (fun _ h => h.2)) (fun _ h => h.1))
    replace HO310 := zA (Kd.N_mono (Kd.N_keep (Kd.N_mono (ok := fun k_ => (((((w.heap.size ≤ k_)) ∧ (some k_ ≠ (.slice Ao39 t305.length co39 : Value).ownBlock ∧ (k_ ≠ gb304 ∧ k_ ≠ g))) ∧ k_ ≠ gb312) ∧ some k_ ≠ (.slice Ao49 y323.length co49 : Value).ownBlock)) (zz131 HO310.out) (fun k_ hk_ => (⟨hk_, hk_.1.1.2.2.2⟩ : _ ∧ k_ ≠ g))) hk (fun _ h => h.2)) (fun _ h => h.1))
    replace BK312 := zA (KeepBut.blk hk (g' := gb312) (o := .cells #[.slice Ao39 t305.length co39, .slice Ao43 t308.length co43] 108 (0, 0)) (zz6 BK312.out) NB312_0.out (by simp))
    replace HO325 := zA (zz91 HI0.out NB0_304.out NB0_312.out HO325.out)
    replace HK := zA (zz92 GW304.out GW312.out)
    replace HB := zA (hb)
    replace HI0 := zA (hi)
    (try clear hb)
    (try clear hb2)
    (try clear hk)
    (try clear hi)
    refine hK.out _ _ ⟨bq_ BK312.out 0, bq_ BK312.out 1⟩ (fun hHeld => ?_)
    clear hK K
    refine qn_ 35 ?_
    refine qo_ 6 36 (fun K hK => ?_)
    refine Kd.R_lit_step Kd.string _ 9 ?hg (N := 36) ?hd (xs := ([t326] : List ByteArray)) (inner := [.string t326]) (ok := fun _ => True) (okp := fun _ => True) ?hr ?hp (fun _ hk => hk) trivial (Below.refl _ _) (Nat.le_refl _) (by simp) ?_; (case hd => rfl); (case hg => rfl); (case hr => exact zz32); (case hp => exact (Reps.one (show Kd.M Kd.string _ _ _ t326 [.string t326] from rfl) (Reps.none _ _)))
    intro v329 w51 ho52 hb hg_ hnew_
    clear hg_ hnew_
    replace ho52 := ny_ Ny328.out ho52
    obtain ⟨Aq329, cq329, eq329⟩ := Kd.R_slice ho52; subst eq329
    replace HO307 := zA (zz132 HO307.out ho52)
    replace HO310 := zA (zz132 HO310.out ho52)
    have HO330 := zA (Kd.R_lower (Kd.R_new' (Kd.R_newM (M := fun k_ => (w.heap.size ≤ k_)) ho52 (keep_size (w := w) (g := g) (row := none) (zz84 GW304.out GW312.out)) (fun k_ h_ => h_)) (Kd.R_lt (zz22 HO325.out))) (keep_size (w := w) (g := g) (row := none) (zz84 GW304.out GW312.out)))
    replace HO325 := zA (zz44 HO325.out ho52)
    replace BK304 := zA (zz129 BK304.out)
    replace BK312 := zA (blk_below (g := gb312) (o := .cells #[.slice Ao39 t305.length co39, .slice Ao43 t308.length co43] 108 (0, 0)) (zz6 BK312.out) hb)
    replace HK := zA (zz86 GW304.out GW312.out)
    replace HB := zA (zz87 HI0.out GE304.out GE312.out)
    replace HI0 := zA (zz93 HI0.out NB0_304.out NB0_312.out)
    clear hb ho52
    have p35 : 0 ≤ (t313 : Int) := dz_
    have q35 : (t313 : Int) < ((t305.length : Int) : Int) := dz_
    obtain ⟨go35, co35, eo35, gb35, gl35, cl35, HG35⟩ := Kd.N_form HO307.out (by omega)
    (first | cases eo35 | (injection eo35 with ea_ en_ ec_; (first | subst ea_ | (injection ea_ with ea_; subst ea_)); subst ec_; clear en_))
    have GB35 := zA gb35; have GG35 := zA HG35; clear gb35 gl35 HG35
    obtain ⟨ce35, hcl35, hM35, hcc35, hfr35⟩ := Kd.N_elem HO307.out z133 (t313 : Int) p35 q35
    obtain ⟨ua35_2, uc35_2, rfl, ul35_2, ge35_2⟩ := k133_openF hM35
    have hx35_0 : World.cell? _ ⟨go35, (t313 : Int).toNat * 4, none⟩ = some (.string ((rd_T133 t305 t313).f0)) := hcc35 0 _ rfl
    have hx35_1 : World.cell? _ ⟨go35, (t313 : Int).toNat * 4 + 1, none⟩ = some (.int .i64 ((rd_T133 t305 t313).f1)) := hcc35 1 _ rfl
    have hx35_2 : World.cell? _ ⟨go35, (t313 : Int).toNat * 4 + 2, none⟩ = some (.slice ua35_2 ((rd_T133 t305 t313).f2).length uc35_2) := hcc35 2 _ rfl
    have hx35_3 : World.cell? _ ⟨go35, (t313 : Int).toNat * 4 + 3, none⟩ = some (.bool ((rd_T133 t305 t313).f3)) := hcc35 3 _ rfl
    have hf35_0 : World.frozen? _ ⟨go35, (t313 : Int).toNat * 4, none⟩ = false := hfr35 0
    have hf35_1 : World.frozen? _ ⟨go35, (t313 : Int).toNat * 4 + 1, none⟩ = false := hfr35 1
    have hf35_2 : World.frozen? _ ⟨go35, (t313 : Int).toNat * 4 + 2, none⟩ = false := hfr35 2
    have hf35_3 : World.frozen? _ ⟨go35, (t313 : Int).toNat * 4 + 3, none⟩ = false := hfr35 3
    clear hcl35 hcc35 hfr35; (try clear hM35)
    replace p35 := eq_true p35
    replace q35 := eq_true q35
    have HN0_go35 := zA (show g ≠ go35 from by have h_ := IsS120.own_neN HI0.out HO307.out (by decide); intro e_; exact h_ (by rw [e_]; rfl))
    have HX53 := zA (show Kd.N k133 133 _ w.heap.size (fun k_ => (w.heap.size ≤ k_) ∧ some k_ ≠ (.slice Ao43 t308.length co43 : Value).ownBlock ∧ some k_ ≠ (.slice Ao49 y323.length co49 : Value).ownBlock ∧ some k_ ≠ ((.slice Aq329 y328.length cq329) : Value).ownBlock ∧ k_ ≠ gb304 ∧ k_ ≠ gb312 ∧ k_ ≠ g) (.slice (some ⟨go35, 0, none⟩) t305.length co39) t305 from (Kd.N_mono (HO307.out) (fun k_ hk => ⟨hk.1.1.1.1, ⟨hk.1.1.1.2.1, ⟨hk.1.2, ⟨hk.2, ⟨hk.1.1.1.2.2.1, ⟨hk.1.1.2, hk.1.1.1.2.2.2⟩⟩⟩⟩⟩⟩)))
    replace HX53 := zA (show Kd.N k133 133 _ w.heap.size (fun k_ => (w.heap.size ≤ k_) ∧ some k_ ≠ (.slice Ao43 t308.length co43 : Value).ownBlock ∧ some k_ ≠ (.slice Ao49 y323.length co49 : Value).ownBlock ∧ k_ ≠ gb304 ∧ k_ ≠ gb312 ∧ k_ ≠ g) (.slice (some ⟨go35, 0, none⟩) t305.length co39) t305 from Kd.N_mono HX53.out (fun k_ hk => ⟨hk.1, ⟨hk.2.1, ⟨hk.2.2.1, ⟨hk.2.2.2.2.1, ⟨hk.2.2.2.2.2.1, hk.2.2.2.2.2.2⟩⟩⟩⟩⟩))
    obtain ⟨ce53, hcl53, hM53, hcc53, hfr53⟩ := Kd.N_elem HX53.out z133 (t313 : Int) (of_decide_eq_true zz3) (zz134 HO307.out)
    obtain ⟨ua53_2, uc53_2, rfl, ul53_2, ge53_2⟩ := k133_openF hM53
    have HP53 := (Kd.N_seg HX53.out (t313 : Int) (of_decide_eq_true zz3) (zz134 HO307.out) (seg := [(.slice Aq329 y328.length cq329)]) (j := 2) hcl53 hcc53 (show 3 ≤ 4 from by decide) (x' := (⟨(rd_T133 t305 t313).f0, (rd_T133 t305 t313).f1, y328, (rd_T133 t305 t313).f3⟩ : S133)) (by have hr_ := (Kd.R_mono (ok' := (fun k_ => ((fun k_ => (w.heap.size ≤ k_) ∧ some k_ ≠ (.slice Ao43 t308.length co43 : Value).ownBlock ∧ some k_ ≠ (.slice Ao49 y323.length co49 : Value).ownBlock ∧ k_ ≠ gb304 ∧ k_ ≠ gb312 ∧ k_ ≠ g)) k_ ∧ k_ ≠ go35)) (IsS120.apart HI0.out (Kd.R_types (Kd.R_types (Kd.R_apart' (Kd.R_apart' (HO330.out) (Kd.N_typed HO310.out) (by decide)) (Kd.N_typed HO307.out) (by decide)) BK304.out (by decide)) BK312.out (by decide)) (by decide)) (fun k_ hk => ⟨⟨hk.1.1.1.1.1.1.1, ⟨hk.1.1.1.1.2, ⟨hk.1.1.1.1.1.2, ⟨hk.1.1.2, ⟨hk.1.2, hk.2⟩⟩⟩⟩⟩, fun e_ => (hk.1.1.1.2) (by rw [e_]; rfl)⟩)); obtain ⟨A_, c_, e_⟩ := Kd.R_slice hr_; rw [e_] at hr_ ⊢; exact k133_mkF _ _ (⟨(rd_T133 t305 t313).f0, (rd_T133 t305 t313).f1, y328, (rd_T133 t305 t313).f3⟩ : S133) (Kd.R_reads' hr_).2.1 (Kd.R_F hr_)) (fun _ hk => hk)).1
    rw [← Ny331.out] at HP53
    have HQ53 := zA HP53
    clear hcl53 hcc53 hfr53 HP53; (try clear hM53)
    refine hK.out _ _ ⟨bq_ BK312.out 0, bq_ BK312.out 1⟩ (fun hHeld => ?_)
    clear hK K
    refine qn_ 36 ?_
    refine qp_ 7 37 ?_
    refine qp_ 8 38 ?_
    refine last_ (i := 9) (N := none) #[tt,tt,tt,tt,tt,tt,tt,tt,tt,tt] rfl rfl (one_of HT_.out (by kernel_rfl)) (by decide) (fun K hK => ?_)
    refine skip_ (w1 := ?_) (by rfl) rfl ?_ ?_
    rotate_left
    ·go_simp
     rfl
    refine hK.out _ _ ?_
    clear hK K
    refine qd_ ?_
    have n0_ : Aside0 (Kd.N k133 133 (w51.setCell ⟨go35, (t313 : Int).toNat * 4 + 2, none⟩ ((.slice Aq329 y328.length cq329))) w.heap.size (fun k_ => (w.heap.size ≤ k_) ∧ some k_ ≠ (.slice Ao43 t308.length co43 : Value).ownBlock ∧ some k_ ≠ (.slice Ao49 y323.length co49 : Value).ownBlock ∧ k_ ≠ gb304 ∧ k_ ≠ g ∧ k_ ≠ gb312) (.slice (some ⟨go35, 0, none⟩) t305.length co39) y331) := ⟨by (with_reducible repeat (first | apply Kd.N_alloc | apply Kd.N_drewN | apply Kd.N_drew)); exact Kd.N_mono HQ53.out (fun _ hk => ⟨hk.1, ⟨hk.2.1, ⟨hk.2.2.1, ⟨hk.2.2.2.1, ⟨hk.2.2.2.2.2, hk.2.2.2.2.1⟩⟩⟩⟩⟩)⟩
    have n1_ : Aside0 (Kd.N k137 137 (w51.setCell ⟨go35, (t313 : Int).toNat * 4 + 2, none⟩ ((.slice Aq329 y328.length cq329))) w.heap.size (fun k_ => (w.heap.size ≤ k_) ∧ some k_ ≠ (.slice (some ⟨go35, 0, none⟩) t305.length co39 : Value).ownBlock ∧ some k_ ≠ (.slice Ao49 y323.length co49 : Value).ownBlock ∧ k_ ≠ gb304 ∧ k_ ≠ g ∧ k_ ≠ gb312) (.slice Ao43 t308.length co43) t308) := ⟨by (with_reducible repeat (first | apply Kd.N_alloc | apply Kd.N_drewN | apply Kd.N_drew)); exact Kd.N_mono (Kd.N_far (p := ⟨go35, (t313 : Int).toNat * 4 + 2, none⟩) (Kd.N_mono HO310.out (fun k_ hk => (⟨hk, fun e_ => hk.1.1.1.2.1 (by rw [e_]; rfl)⟩ : _ ∧ k_ ≠ go35))) (fun _ hk => hk.2) ((.slice Aq329 y328.length cq329))) (fun _ hk => ⟨hk.1.1.1.1.1, ⟨hk.1.1.1.1.2.1, ⟨hk.1.1.2, ⟨hk.1.1.1.1.2.2.1, ⟨hk.1.1.1.1.2.2.2, hk.1.1.1.2⟩⟩⟩⟩⟩)⟩
    have n2_ : Aside0 (Kd.R Kd.string 9 (w51.setCell ⟨go35, (t313 : Int).toNat * 4 + 2, none⟩ ((.slice Aq329 y328.length cq329))) w.heap.size (fun k_ => (w.heap.size ≤ k_)) (.slice Ao49 y323.length co49) y323) := ⟨by (with_reducible repeat first | apply Kd.R_alloc | apply Kd.R_drewN | apply Kd.R_drew); exact Kd.R_mono (Kd.R_far (p := ⟨go35, (t313 : Int).toNat * 4 + 2, none⟩) (Kd.R_types HO325.out GG35.out (by decide)) (fun _ hk => hk.2) ((.slice Aq329 y328.length cq329))) (fun _ hk => hk.1.1.1)⟩
    have n3_ : Aside0 ((w51.setCell ⟨go35, (t313 : Int).toNat * 4 + 2, none⟩ ((.slice Aq329 y328.length cq329))).heap[gb304]? = some (.cells #[.slice none 0 0, .slice none 0 0] 108 (0, 0))) := ⟨by (with_reducible repeat first | apply blk_drewN | apply blk_drew | apply blk_alloc); refine blk_far ?_ (by intro e_; first | exact (Kd.N_away HO307.out (fun _ hk => hk.2.2.2.1)) (by rw [e_]; rfl) | exact (Kd.N_away HO307.out (fun _ hk => hk.1.1.1.2.2.1)) (by rw [e_]; rfl) | exact (Kd.N_away HO307.out (fun _ hk => hk.1.1.2)) (by rw [e_]; rfl) | exact (Kd.N_away HO307.out (fun _ hk => hk.1.2)) (by rw [e_]; rfl) | exact (Kd.N_away HO307.out (fun _ hk => hk.1.1.1.1.2.2.1)) (by rw [e_]; rfl) | exact (Kd.N_away HO307.out (fun _ hk => hk.1.1.1.2)) (by rw [e_]; rfl) | exact (Kd.N_away HO307.out (fun _ hk => hk.1.1.1.2.1)) (by rw [e_]; rfl) | exact (Kd.N_away HO307.out (fun _ hk => hk.2)) (by rw [e_]; rfl) | exact (Kd.N_away HO307.out (fun _ hk => hk.2.1)) (by rw [e_]; rfl) | exact (Kd.N_away HO307.out (fun _ hk => hk.2.2.1)) (by rw [e_]; rfl)) _; (with_reducible repeat first | apply blk_drewN | apply blk_drew | apply blk_alloc); exact BK304.out⟩
    have n4_ : Aside0 ((w51.setCell ⟨go35, (t313 : Int).toNat * 4 + 2, none⟩ ((.slice Aq329 y328.length cq329))).heap[gb312]? = some (.cells #[.slice (some ⟨go35, 0, none⟩) t305.length co39, .slice Ao43 t308.length co43] 108 (0, 0))) := ⟨by (with_reducible repeat first | apply blk_drewN | apply blk_drew | apply blk_alloc); refine blk_far ?_ (by intro e_; first | exact (Kd.N_away HO307.out (fun _ hk => hk.2.2.2.2.1)) (by rw [e_]; rfl) | exact (Kd.N_away HO307.out (fun _ hk => hk.1.1.1.2.2.1)) (by rw [e_]; rfl) | exact (Kd.N_away HO307.out (fun _ hk => hk.1.1.2)) (by rw [e_]; rfl) | exact (Kd.N_away HO307.out (fun _ hk => hk.1.2)) (by rw [e_]; rfl) | exact (Kd.N_away HO307.out (fun _ hk => hk.1.1.1.1.2.2.1)) (by rw [e_]; rfl) | exact (Kd.N_away HO307.out (fun _ hk => hk.1.1.1.2)) (by rw [e_]; rfl) | exact (Kd.N_away HO307.out (fun _ hk => hk.1.1.1.2.1)) (by rw [e_]; rfl) | exact (Kd.N_away HO307.out (fun _ hk => hk.2)) (by rw [e_]; rfl) | exact (Kd.N_away HO307.out (fun _ hk => hk.2.1)) (by rw [e_]; rfl) | exact (Kd.N_away HO307.out (fun _ hk => hk.2.2.1)) (by rw [e_]; rfl)) _; (with_reducible repeat first | apply blk_drewN | apply blk_drew | apply blk_alloc); exact BK312.out⟩
    have n5_ : Aside0 (IsS120 w0 (w51.setCell ⟨go35, (t313 : Int).toNat * 4 + 2, none⟩ ((.slice Aq329 y328.length cq329))) g s0_0 t327) := ⟨by repeat (first | (with_reducible first | exact HI0.out | apply IsS120.alloc | apply IsS120.drewN | apply IsS120.drew | apply IsS120.set_1 | refine IsS120.far ?_ HN0_go35.out _ | refine IsS120.far ?_ NB0_304.out _ | refine IsS120.far ?_ NB0_312.out _) | exact HI0.out)⟩
    have n6_ : Aside0 (KeepBut w (w51.setCell ⟨go35, (t313 : Int).toNat * 4 + 2, none⟩ ((.slice Aq329 y328.length cq329))) g none) := ⟨(zz118 GB35.out GW304.out GW312.out)⟩
    have n7_ : Aside0 (Below w0.heap.size w0 (w51.setCell ⟨go35, (t313 : Int).toNat * 4 + 2, none⟩ ((.slice Aq329 y328.length cq329)))) := ⟨by repeat (first | (with_reducible first | exact HB.out | apply below_alloc | apply pw_below_drewN | apply below_drew1 | refine below_set ?_ (Nat.le_trans HL.out GB35.out) | refine below_set ?_ (IsS120.ge HI0.out) | refine below_set ?_ GE304.out | refine below_set ?_ GE312.out) | exact HB.out)⟩
    (try clear HO307)
    (try clear HO310)
    (try clear HO325)
    (try clear BK304)
    (try clear BK312)
    (try clear HI0)
    (try clear HK)
    (try clear HB)
    generalize (w51.setCell ⟨go35, (t313 : Int).toNat * 4 + 2, none⟩ ((.slice Aq329 y328.length cq329))) = w54 at n0_ n1_ n2_ n3_ n4_ n5_ n6_ n7_ ⊢
    have HO307 := n0_; have HO310 := n1_; have HO325 := n2_; have BK304 := n3_; have BK312 := n4_; have HI0 := n5_; have HK := n6_; have HB := n7_; clear n0_ n1_ n2_ n3_ n4_ n5_ n6_ n7_
    obtain ⟨hcz55_0, hcz55_1, hfz55_0, hfz55_1⟩ := bk2_ BK312.out; have hnb56 := NB304_0.out; have hnc56 := NB0_304.out
    obtain ⟨hcz57_0, hcz57_1, hfz57_0, hfz57_1⟩ := bk2_ BK304.out; try go_wp2
    refine bodyPost_ret (results_cell_row rfl _ _ gb304 108 #[.slice (some ⟨go35, 0, none⟩) t305.length co39, .slice Ao43 t308.length co43] (0, 0) _ rfl (by (with_reducible repeat first | apply blk_drewN | apply blk_drew | apply blk_alloc); refine blk_put (cs := #[.slice (some ⟨go35, 0, none⟩) t305.length co39, .slice none 0 0]) ?_ 1 _ rfl; (with_reducible repeat first | apply blk_drewN | apply blk_drew | apply blk_alloc); refine blk_put (cs := #[.slice none 0 0, .slice none 0 0]) ?_ 0 _ rfl; (with_reducible repeat first | apply blk_drewN | apply blk_drew | apply blk_alloc); exact BK304.out) Try.underlying108 rfl (by kernel_rfl)) rfl ?_
    exact ⟨_, _, zz14, by (with_reducible repeat (first | apply Kd.N_alloc | apply Kd.N_drewN | apply Kd.N_drew)); exact Kd.N_mono (Kd.N_far (p := ⟨gb304, 1, none⟩) (Kd.N_far (p := ⟨gb304, 0, none⟩) (Kd.N_mono HO307.out (fun k_ hk => (⟨hk, hk.2.2.2.1⟩ : _ ∧ k_ ≠ gb304))) (fun _ hk => hk.2) (.slice (some ⟨go35, 0, none⟩) t305.length co39)) (fun _ hk => hk.2) (.slice Ao43 t308.length co43)) (fun _ hk => ⟨hk.1.1, hk.1.2.1⟩), by (with_reducible repeat (first | apply Kd.N_alloc | apply Kd.N_drewN | apply Kd.N_drew)); exact Kd.N_mono (Kd.N_far (p := ⟨gb304, 1, none⟩) (Kd.N_far (p := ⟨gb304, 0, none⟩) (Kd.N_mono HO310.out (fun k_ hk => (⟨hk, hk.2.2.2.1⟩ : _ ∧ k_ ≠ gb304))) (fun _ hk => hk.2) (.slice (some ⟨go35, 0, none⟩) t305.length co39)) (fun _ hk => hk.2) (.slice Ao43 t308.length co43)) (fun _ hk => ⟨hk.1.1, hk.1.2.1⟩), (zz88 HI0.out NB0_304.out NB0_312.out), (zz89 HI0.out GE304.out GE312.out), (zz95 GW304.out GW312.out)⟩
   ·have c31b0 : (t315 == 1) = false := beq_eq_false_iff_ne.mpr c31
    have c31b1 : (t315 != 1) = true := bne_iff_ne.mpr c31
    rcases ie_ H with ⟨c58, H⟩ | ⟨c58, H⟩
    ·have c58b0 : (t315 == 2) = true := beq_iff_eq.mpr c58
     have c58b1 : (t315 != 2) = false := bne_eq_false_iff_eq.mpr c58
     clear c58
     obtain ⟨y332, hy332⟩ : ∃ y_ : List ByteArray, y_ = (([(⟨#[100, 98]⟩ : ByteArray), (⟨#[88]⟩ : ByteArray), (⟨#[110, 101, 119]⟩ : ByteArray)] : List ByteArray)) := ⟨_, rfl⟩
     replace H : ((spec_reader_of.f k s0_0 t316 y332).bind fun bt335 => (if 0 ≤ t313 then (if t313 < (t305.length : Int) then (some ((t305.set (t313 : Int).toNat (⟨bt335.1, (rd_T133 t305 t313).f1, (rd_T133 t305 t313).f2, (rd_T133 t305 t313).f3⟩ : S133)), t308, bt335.2)) else (none)) else (none))) = some (r1, r2, r3) := (zz24 hy332)
     have Ny332 := zA hy332; clear hy332
     obtain ⟨⟨t335, t336⟩, A59, H⟩ := bs_ H
     (try dsimp only at H)
     obtain ⟨c60b0, H⟩ := it_ H
     obtain ⟨c61b0, H⟩ := it_ H
     obtain ⟨y337, hy337⟩ : ∃ y_ : List (S133), y_ = (t305.set (t313 : Int).toNat (⟨t335, (rd_T133 t305 t313).f1, (rd_T133 t305 t313).f2, (rd_T133 t305 t313).f3⟩ : S133)) := ⟨_, rfl⟩
     replace H : (some (y337, t308, t336)) = some (r1, r2, r3) := (zz24 hy337)
     have Ny337 := zA hy337; clear hy337
     simp only [Option.some.injEq, Prod.mk.injEq] at H
     obtain ⟨rfl, rfl, rfl⟩ := H
     go_enter Try.func101, Try.ntmps101
     try go_wp2_with (first | ((with_reducible refine gate_dst (N := 2) rfl ?_); refine bx_ 2 #[.slice none 0 0, .slice none 0 0] 108 ?_; intro gb304 hg w63 hbox hb; replace HB := zA (zz30 HI0.out); have BK304 := zA (hbox); have GW304 := zA ((zz67 : w.heap.size ≤ gb304)); have GE304 := zA ((Nat.le_trans HW0.out (zz67 : w.heap.size ≤ gb304) : w0.heap.size ≤ gb304)); replace HK := zA zz29; have NB0_304 := zA (((zz68 HI0.out) : g ≠ gb304)); have NB304_0 := zA (((zz69 HI0.out) : gb304 ≠ g)); replace HI0 := zA (zz31 HI0.out); clear hb hbox hg) | ((with_reducible refine gate_callee (f := 107) rfl ?_); refine goesL_ (some 6) rfl rfl Try.func107 (by kernel_rfl) rfl #[.pointer (some ⟨g, 0, none⟩)] rfl zz17 ?_; (with_reducible refine (spec_goodSuite.calls k g s0_0 s0_1 t305 t308 t311 w0 _ ?side1 ?side2 A2.out).mono ?_); (case side1 => exact (zz75 HI0.out NB0_304.out)); (case side2 => exact (zz76 HI0.out GE304.out)); rintro e w64 ⟨v306, v309, rfl, ho0, ho1, hi, hb, hk⟩; refine ⟨_, rfl, ?_⟩; have HO307 := zA (zz122 ho0 ho1 GW304.out BK304.out HI0.out NB0_304.out); have HO310 := zA (zz123 ho1 ho0 GW304.out BK304.out HI0.out NB0_304.out); replace BK304 := zA (zz124 BK304.out NB304_0.out); replace HK := zA (zz125 GW304.out); replace HB := zA (hb); replace HI0 := zA (hi); (try clear hb); (try clear hk); (try clear hi); (try clear ho0); (try clear ho1)) | ((with_reducible refine gate_dst (N := 3) rfl ?_); refine bx_ 3 #[.slice none 0 0, .slice none 0 0] 108 ?_; intro gb312 hg w65 hbox hb; replace HO307 := zA (zz126 HO307.out); replace HO310 := zA (zz126 HO310.out); replace HB := zA (zz72 HI0.out GE304.out); have BK312 := zA (hbox); have GW312 := zA (((zz79 GW304.out) : w.heap.size ≤ gb312)); have GE312 := zA ((Nat.le_trans HW0.out ((zz79 GW304.out) : w.heap.size ≤ gb312) : w0.heap.size ≤ gb312)); replace HK := zA (zz71 GW304.out); have NB304_312 := zA (((zz127 BK304.out) : gb304 ≠ gb312)); have NB312_304 := zA (((zz128 BK304.out) : gb312 ≠ gb304)); replace BK304 := zA (zz129 BK304.out); have NB0_312 := zA (((zz82 HI0.out NB0_304.out) : g ≠ gb312)); have NB312_0 := zA (((zz83 HI0.out NB0_304.out) : gb312 ≠ g)); replace HI0 := zA (zz73 HI0.out NB0_304.out); clear hb hbox hg; obtain ⟨Ao66, co66, eo66⟩ := Kd.N_slice HO307.out; subst eo66; have hnb67 := NB312_304.out; have hnc67 := NB304_312.out; have hnb68 := NB312_0.out; have hnc68 := NB0_312.out; obtain ⟨hcz69_0, hcz69_1, hfz69_0, hfz69_1⟩ := bk2_ BK312.out; obtain ⟨Ao70, co70, eo70⟩ := Kd.N_slice HO310.out; subst eo70) | ((with_reducible refine gate_callee (f := 85) rfl ?_); refine goesL_ (some 15) rfl rfl Try.func85 (by kernel_rfl) rfl #[.pointer (some ⟨g, 0, none⟩), .int .i64 (t305.length : Int)] rfl zz17 ?_; (with_reducible refine (spec_reader_pick.calls k g s0_0 t311 (t305.length : Int) t313 t314 w0 _ ?side1 ?side2 A4.out).mono ?_); (case side1 => exact (zz88 HI0.out NB0_304.out NB0_312.out)); (case side2 => exact (zz89 HI0.out GE304.out GE312.out)); rintro e w71 ⟨rfl, hi, hb, hk⟩; refine ⟨_, rfl, ?_⟩; replace BK304 := zA (zz130 NB304_312.out BK304.out NB304_0.out); replace HO307 := zA (Kd.N_mono (Kd.N_keep (Kd.N_mono (ok := fun k_ => ((((w.heap.size ≤ k_)) ∧ (some k_ ≠ (.slice Ao70 t308.length co70 : Value).ownBlock ∧ (k_ ≠ gb304 ∧ k_ ≠ g))) ∧ k_ ≠ gb312)) (by (with_reducible repeat (first | apply Kd.N_alloc | apply Kd.N_drewN | apply Kd.N_drew)); exact (Kd.N_mono (Kd.N_far (p := ⟨gb312, 1, none⟩) (Kd.N_far (p := ⟨gb312, 0, none⟩) (Kd.N_mono HO307.out (fun k_ hk => (⟨hk, hk.2⟩ : _ ∧ k_ ≠ gb312))) (fun _ hk => hk.2) (.slice Ao66 t305.length co66)) (fun _ hk => hk.2) (.slice Ao70 t308.length co70)) (fun _ h_ => h_.1))) (fun k_ hk_ => (⟨hk_, hk_.1.2.2.2⟩ : _ ∧ k_ ≠ g))) hk (fun _ h => h.2)) (fun _ h => h.1)); replace HO310 := zA (Kd.N_mono (Kd.N_keep (Kd.N_mono (ok := fun k_ => ((((w.heap.size ≤ k_)) ∧ (some k_ ≠ (.slice Ao66 t305.length co66 : Value).ownBlock ∧ (k_ ≠ gb304 ∧ k_ ≠ g))) ∧ k_ ≠ gb312)) (by (with_reducible repeat (first | apply Kd.N_alloc | apply Kd.N_drewN | apply Kd.N_drew)); exact (Kd.N_mono (Kd.N_far (p := ⟨gb312, 1, none⟩) (Kd.N_far (p := ⟨gb312, 0, none⟩) (Kd.N_mono HO310.out (fun k_ hk => (⟨hk, hk.2⟩ : _ ∧ k_ ≠ gb312))) (fun _ hk => hk.2) (.slice Ao66 t305.length co66)) (fun _ hk => hk.2) (.slice Ao70 t308.length co70)) (fun _ h_ => h_.1))) (fun k_ hk_ => (⟨hk_, hk_.1.2.2.2⟩ : _ ∧ k_ ≠ g))) hk (fun _ h => h.2)) (fun _ h => h.1)); replace BK312 := zA (KeepBut.blk hk (g' := gb312) (o := .cells #[.slice Ao66 t305.length co66, .slice Ao70 t308.length co70] 108 (0, 0)) (by (with_reducible repeat first | apply blk_drewN | apply blk_drew | apply blk_alloc); refine blk_put (cs := #[.slice Ao66 t305.length co66, .slice none 0 0]) ?_ 1 _ rfl; (with_reducible repeat first | apply blk_drewN | apply blk_drew | apply blk_alloc); refine blk_put (cs := #[.slice none 0 0, .slice none 0 0]) ?_ 0 _ rfl; (with_reducible repeat first | apply blk_drewN | apply blk_drew | apply blk_alloc); exact BK312.out) NB312_0.out (by simp)); replace HK := zA (zz92 GW304.out GW312.out); replace HB := zA (hb); replace HI0 := zA (hi); (try clear hb); (try clear hk); (try clear hi)) | ((with_reducible refine gate_callee (f := 85) rfl ?_); refine goesL_ (some 17) rfl rfl Try.func85 (by kernel_rfl) rfl #[.pointer (some ⟨g, 0, none⟩), .int .i64 24] rfl zz17 ?_; (with_reducible refine (spec_reader_pick.calls k g s0_0 t314 24 t315 t316 w0 _ ?side1 ?side2 A5.out).mono ?_); (case side1 => exact (zz88 HI0.out NB0_304.out NB0_312.out)); (case side2 => exact (zz89 HI0.out GE304.out GE312.out)); rintro e w72 ⟨rfl, hi, hb, hk⟩; refine ⟨_, rfl, ?_⟩; replace BK304 := zA (zz124 BK304.out NB304_0.out); replace HO307 := zA (Kd.N_mono (Kd.N_keep (Kd.N_mono (ok := fun k_ => ((((w.heap.size ≤ k_)) ∧ (some k_ ≠ (.slice Ao70 t308.length co70 : Value).ownBlock ∧ (k_ ≠ gb304 ∧ k_ ≠ g))) ∧ k_ ≠ gb312)) (zz131 HO307.out) (fun k_ hk_ => (⟨hk_, hk_.1.2.2.2⟩ : _ ∧ k_ ≠ g))) hk (fun _ h => h.2)) (fun _ h => h.1)); replace HO310 := zA (Kd.N_mono (Kd.N_keep (Kd.N_mono (ok := fun k_ => ((((w.heap.size ≤ k_)) ∧ (some k_ ≠ (.slice Ao66 t305.length co66 : Value).ownBlock ∧ (k_ ≠ gb304 ∧ k_ ≠ g))) ∧ k_ ≠ gb312)) (zz131 HO310.out) (fun k_ hk_ => (⟨hk_, hk_.1.2.2.2⟩ : _ ∧ k_ ≠ g))) hk (fun _ h => h.2)) (fun _ h => h.1)); replace BK312 := zA (KeepBut.blk hk (g' := gb312) (o := .cells #[.slice Ao66 t305.length co66, .slice Ao70 t308.length co70] 108 (0, 0)) (zz6 BK312.out) NB312_0.out (by simp)); replace HK := zA (zz92 GW304.out GW312.out); replace HB := zA (hb); replace HI0 := zA (hi); (try clear hb); (try clear hk); (try clear hi)))
     replace HO307 := zA (Kd.N_drew HO307.out); replace HO310 := zA (Kd.N_drew HO310.out); replace BK304 := zA (blk_drew BK304.out); replace BK312 := zA (blk_drew BK312.out); replace HI0 := zA (IsS120.drew HI0.out); replace HK := zA zz96; replace HB := zA zz40
     refine start_ (n := 9) (S := fun w' => w'.cell? ⟨gb312, 0, none⟩ = some (.slice Ao66 t305.length co66) ∧ w'.cell? ⟨gb312, 1, none⟩ = some (.slice Ao70 t308.length co70)) (ds := [8]) #[ff,ff,ff,ff,ff,ff,ff,ff,ff] (by kernel_rfl) rfl rfl ⟨bq_ BK312.out 0, bq_ BK312.out 1⟩ (fun hHeld => ?_); refine with_tabW spec_someSuite.tab10 spec_someSuite.bits10 (fun HT_ HW_ => ?_)
     generalize w72.drew = w73 at HO307 HO310 BK304 BK312 HI0 HK HB hHeld ⊢
     refine qp_ 0 41 ?_
     refine qp_ 2 43 ?_
     refine qp_ 3 44 ?_
     refine qt_ 1 42 ?_
     refine qo_ 4 45 (fun K hK => ?_)
     refine Kd.R_lit_step Kd.string _ 9 ?hg (N := 45) ?hd (xs := ([(⟨#[100, 98]⟩ : ByteArray), (⟨#[88]⟩ : ByteArray), (⟨#[110, 101, 119]⟩ : ByteArray)] : List ByteArray)) (inner := [.string (⟨#[100, 98]⟩ : ByteArray), .string (⟨#[88]⟩ : ByteArray), .string (⟨#[110, 101, 119]⟩ : ByteArray)]) (ok := fun _ => True) (okp := fun _ => True) ?hr ?hp (fun _ hk => hk) trivial (Below.refl _ _) (Nat.le_refl _) (by simp) ?_; (case hd => rfl); (case hg => rfl); (case hr => exact zz32); (case hp => exact (Reps.one (show Kd.M Kd.string _ _ _ (⟨#[100, 98]⟩ : ByteArray) [.string (⟨#[100, 98]⟩ : ByteArray)] from rfl) (Reps.one (show Kd.M Kd.string _ _ _ (⟨#[88]⟩ : ByteArray) [.string (⟨#[88]⟩ : ByteArray)] from rfl) (Reps.one (show Kd.M Kd.string _ _ _ (⟨#[110, 101, 119]⟩ : ByteArray) [.string (⟨#[110, 101, 119]⟩ : ByteArray)] from rfl) (Reps.none _ _)))))
     intro v333 w74 ho75 hb hg_ hnew_
     clear hg_ hnew_
     replace ho75 := ny_ Ny332.out ho75
     replace HO307 := zA (zz132 HO307.out ho75)
     replace HO310 := zA (zz132 HO310.out ho75)
     have HO334 := zA (zz133 ho75 GW304.out GW312.out)
     replace BK304 := zA (zz129 BK304.out)
     replace BK312 := zA (blk_below (g := gb312) (o := .cells #[.slice Ao66 t305.length co66, .slice Ao70 t308.length co70] 108 (0, 0)) (zz6 BK312.out) hb)
     replace HK := zA (zz86 GW304.out GW312.out)
     replace HB := zA (zz87 HI0.out GE304.out GE312.out)
     replace HI0 := zA (zz93 HI0.out NB0_304.out NB0_312.out)
     clear hb ho75
     obtain ⟨Ao76, co76, eo76⟩ := Kd.R_slice HO334.out
     (first | subst eo76 | (injection eo76 with f1_ f2_ f3_; have f4_ := f1_.symm; have f5_ := f3_.symm; clear f1_ f2_ f3_; subst f4_; subst f5_))
     refine hK.out _ _ ⟨bq_ BK312.out 0, bq_ BK312.out 1⟩ (fun hHeld => ?_)
     clear hK K
     refine qn_ 45 ?_
     refine qo_ 5 46 (fun K hK => ?_)
     refine goes_ Try.func87 (by kernel_rfl) rfl #[.pointer (some ⟨g, 0, none⟩), .slice Ao76 y332.length co76] (by rfl) rfl rfl zz17 ?_
     with_reducible refine (spec_reader_of.calls k g s0_0 t316 _ _ y332 t335 t336 w0 _ ?side1 ?side2 ?side3 ?side4 ?side5 A59.out).mono ?_
     (case side1 => exact (zz88 HI0.out NB0_304.out NB0_312.out))
     (case side2 => exact (zz89 HI0.out GE304.out GE312.out))
     (case side3 => exact (zz20 HO334.out))
     (case side4 => exact (zz21 HO334.out))
     (case side5 => exact (zz34 HI0.out HO334.out))
     rintro e w77 ⟨rfl, hi, hb, hk⟩
     refine ⟨_, rfl, ?_⟩
     replace BK304 := zA (zz124 BK304.out NB304_0.out)
     replace HO307 := zA (Kd.N_mono (Kd.N_keep (Kd.N_mono (ok := fun k_ => (((((w.heap.size ≤ k_)) ∧ (some k_ ≠ (.slice Ao70 t308.length co70 : Value).ownBlock ∧ (k_ ≠ gb304 ∧ k_ ≠ g))) ∧ k_ ≠ gb312) ∧ some k_ ≠ (.slice Ao76 y332.length co76 : Value).ownBlock)) (zz131 HO307.out) (fun k_ hk_ => (⟨hk_, hk_.1.1.2.2.2⟩ : _ ∧ k_ ≠ g))) hk (fun _ h => h.2)) (fun _ h => h.1))
     replace HO310 := zA (Kd.N_mono (Kd.N_keep (Kd.N_mono (ok := fun k_ => (((((w.heap.size ≤ k_)) ∧ (some k_ ≠ (.slice Ao66 t305.length co66 : Value).ownBlock ∧ (k_ ≠ gb304 ∧ k_ ≠ g))) ∧ k_ ≠ gb312) ∧ some k_ ≠ (.slice Ao76 y332.length co76 : Value).ownBlock)) (zz131 HO310.out) (fun k_ hk_ => (⟨hk_, hk_.1.1.2.2.2⟩ : _ ∧ k_ ≠ g))) hk (fun _ h => h.2)) (fun _ h => h.1))
     replace BK312 := zA (KeepBut.blk hk (g' := gb312) (o := .cells #[.slice Ao66 t305.length co66, .slice Ao70 t308.length co70] 108 (0, 0)) (zz6 BK312.out) NB312_0.out (by simp))
     replace HO334 := zA (zz91 HI0.out NB0_304.out NB0_312.out HO334.out)
     replace HK := zA (zz92 GW304.out GW312.out)
     replace HB := zA (hb)
     replace HI0 := zA (hi)
     (try clear hb)
     (try clear hb2)
     (try clear hk)
     (try clear hi)
     have p62 : 0 ≤ (t313 : Int) := dz_
     have q62 : (t313 : Int) < ((t305.length : Int) : Int) := dz_
     obtain ⟨go62, co62, eo62, gb62, gl62, cl62, HG62⟩ := Kd.N_form HO307.out (by omega)
     (first | cases eo62 | (injection eo62 with ea_ en_ ec_; (first | subst ea_ | (injection ea_ with ea_; subst ea_)); subst ec_; clear en_))
     have GB62 := zA gb62; have GG62 := zA HG62; clear gb62 gl62 HG62
     obtain ⟨ce62, hcl62, hM62, hcc62, hfr62⟩ := Kd.N_elem HO307.out z133 (t313 : Int) p62 q62
     obtain ⟨ua62_2, uc62_2, rfl, ul62_2, ge62_2⟩ := k133_openF hM62
     have hx62_0 : World.cell? _ ⟨go62, (t313 : Int).toNat * 4, none⟩ = some (.string ((rd_T133 t305 t313).f0)) := hcc62 0 _ rfl
     have hx62_1 : World.cell? _ ⟨go62, (t313 : Int).toNat * 4 + 1, none⟩ = some (.int .i64 ((rd_T133 t305 t313).f1)) := hcc62 1 _ rfl
     have hx62_2 : World.cell? _ ⟨go62, (t313 : Int).toNat * 4 + 2, none⟩ = some (.slice ua62_2 ((rd_T133 t305 t313).f2).length uc62_2) := hcc62 2 _ rfl
     have hx62_3 : World.cell? _ ⟨go62, (t313 : Int).toNat * 4 + 3, none⟩ = some (.bool ((rd_T133 t305 t313).f3)) := hcc62 3 _ rfl
     have hf62_0 : World.frozen? _ ⟨go62, (t313 : Int).toNat * 4, none⟩ = false := hfr62 0
     have hf62_1 : World.frozen? _ ⟨go62, (t313 : Int).toNat * 4 + 1, none⟩ = false := hfr62 1
     have hf62_2 : World.frozen? _ ⟨go62, (t313 : Int).toNat * 4 + 2, none⟩ = false := hfr62 2
     have hf62_3 : World.frozen? _ ⟨go62, (t313 : Int).toNat * 4 + 3, none⟩ = false := hfr62 3
     clear hcl62 hcc62 hfr62; (try clear hM62)
     replace p62 := eq_true p62
     replace q62 := eq_true q62
     have HN0_go62 := zA (show g ≠ go62 from by have h_ := IsS120.own_neN HI0.out HO307.out (by decide); intro e_; exact h_ (by rw [e_]; rfl))
     have HX78 := zA (show Kd.N k133 133 _ w.heap.size (fun k_ => (w.heap.size ≤ k_) ∧ some k_ ≠ (.slice Ao70 t308.length co70 : Value).ownBlock ∧ some k_ ≠ (.slice Ao76 y332.length co76 : Value).ownBlock ∧ k_ ≠ gb304 ∧ k_ ≠ gb312 ∧ k_ ≠ g) (.slice (some ⟨go62, 0, none⟩) t305.length co66) t305 from (Kd.N_mono (HO307.out) (fun k_ hk => ⟨hk.1.1.1, ⟨hk.1.1.2.1, ⟨hk.2, ⟨hk.1.1.2.2.1, ⟨hk.1.2, hk.1.1.2.2.2⟩⟩⟩⟩⟩)))
     obtain ⟨ce78, hcl78, hM78, hcc78, hfr78⟩ := Kd.N_elem HX78.out z133 (t313 : Int) (of_decide_eq_true zz3) (zz134 HO307.out)
     obtain ⟨ua78_2, uc78_2, rfl, ul78_2, ge78_2⟩ := k133_openF hM78
     have HP78 := (Kd.N_seg HX78.out (t313 : Int) (of_decide_eq_true zz3) (zz134 HO307.out) (seg := [.string t335]) (j := 0) hcl78 hcc78 (show 1 ≤ 4 from by decide) (x' := (⟨t335, (rd_T133 t305 t313).f1, (rd_T133 t305 t313).f2, (rd_T133 t305 t313).f3⟩ : S133)) (k133_mkF _ _ (⟨t335, (rd_T133 t305 t313).f1, (rd_T133 t305 t313).f2, (rd_T133 t305 t313).f3⟩ : S133) ul78_2 ge78_2) (fun _ hk => hk)).1
     rw [← Ny337.out] at HP78
     have HQ78 := zA HP78
     clear hcl78 hcc78 hfr78 HP78; (try clear hM78)
     refine hK.out _ _ ⟨bq_ BK312.out 0, bq_ BK312.out 1⟩ (fun hHeld => ?_)
     clear hK K
     refine qn_ 46 ?_
     refine qp_ 6 47 ?_
     refine qp_ 7 48 ?_
     refine last_ (i := 8) (N := none) #[tt,tt,tt,tt,tt,tt,tt,tt,tt] rfl rfl (one_of HT_.out (by kernel_rfl)) (by decide) (fun K hK => ?_)
     refine skip_ (w1 := ?_) (by rfl) rfl ?_ ?_
     rotate_left
     ·go_simp
      rfl
     refine hK.out _ _ ?_
     clear hK K
     refine qd_ ?_
     have n0_ : Aside0 (Kd.N k133 133 (w77.setCell ⟨go62, (t313 : Int).toNat * 4, none⟩ (.string t335)) w.heap.size (fun k_ => (w.heap.size ≤ k_) ∧ some k_ ≠ (.slice Ao70 t308.length co70 : Value).ownBlock ∧ some k_ ≠ (.slice Ao76 y332.length co76 : Value).ownBlock ∧ k_ ≠ gb304 ∧ k_ ≠ g ∧ k_ ≠ gb312) (.slice (some ⟨go62, 0, none⟩) t305.length co66) y337) := ⟨by (with_reducible repeat (first | apply Kd.N_alloc | apply Kd.N_drewN | apply Kd.N_drew)); exact Kd.N_mono HQ78.out (fun _ hk => ⟨hk.1, ⟨hk.2.1, ⟨hk.2.2.1, ⟨hk.2.2.2.1, ⟨hk.2.2.2.2.2, hk.2.2.2.2.1⟩⟩⟩⟩⟩)⟩
     have n1_ : Aside0 (Kd.N k137 137 (w77.setCell ⟨go62, (t313 : Int).toNat * 4, none⟩ (.string t335)) w.heap.size (fun k_ => (w.heap.size ≤ k_) ∧ some k_ ≠ (.slice (some ⟨go62, 0, none⟩) t305.length co66 : Value).ownBlock ∧ some k_ ≠ (.slice Ao76 y332.length co76 : Value).ownBlock ∧ k_ ≠ gb304 ∧ k_ ≠ g ∧ k_ ≠ gb312) (.slice Ao70 t308.length co70) t308) := ⟨by (with_reducible repeat (first | apply Kd.N_alloc | apply Kd.N_drewN | apply Kd.N_drew)); exact Kd.N_mono (Kd.N_far (p := ⟨go62, (t313 : Int).toNat * 4, none⟩) (Kd.N_mono HO310.out (fun k_ hk => (⟨hk, fun e_ => hk.1.1.2.1 (by rw [e_]; rfl)⟩ : _ ∧ k_ ≠ go62))) (fun _ hk => hk.2) (.string t335)) (fun _ hk => ⟨hk.1.1.1.1, ⟨hk.1.1.1.2.1, ⟨hk.1.2, ⟨hk.1.1.1.2.2.1, ⟨hk.1.1.1.2.2.2, hk.1.1.2⟩⟩⟩⟩⟩)⟩
     have n2_ : Aside0 (Kd.R Kd.string 9 (w77.setCell ⟨go62, (t313 : Int).toNat * 4, none⟩ (.string t335)) w.heap.size (fun k_ => (w.heap.size ≤ k_)) (.slice Ao76 y332.length co76) y332) := ⟨by (with_reducible repeat first | apply Kd.R_alloc | apply Kd.R_drewN | apply Kd.R_drew); exact Kd.R_mono (Kd.R_far (p := ⟨go62, (t313 : Int).toNat * 4, none⟩) (Kd.R_types HO334.out GG62.out (by decide)) (fun _ hk => hk.2) (.string t335)) (fun _ hk => hk.1.1)⟩
     have n3_ : Aside0 ((w77.setCell ⟨go62, (t313 : Int).toNat * 4, none⟩ (.string t335)).heap[gb304]? = some (.cells #[.slice none 0 0, .slice none 0 0] 108 (0, 0))) := ⟨by (with_reducible repeat first | apply blk_drewN | apply blk_drew | apply blk_alloc); refine blk_far ?_ (by intro e_; first | exact (Kd.N_away HO307.out (fun _ hk => hk.1.1.2.2.1)) (by rw [e_]; rfl) | exact (Kd.N_away HO307.out (fun _ hk => hk.1.1.1.2.2.1)) (by rw [e_]; rfl) | exact (Kd.N_away HO307.out (fun _ hk => hk.1.1.2)) (by rw [e_]; rfl) | exact (Kd.N_away HO307.out (fun _ hk => hk.1.2)) (by rw [e_]; rfl) | exact (Kd.N_away HO307.out (fun _ hk => hk.1.1.1.1.2.2.1)) (by rw [e_]; rfl) | exact (Kd.N_away HO307.out (fun _ hk => hk.1.1.1.2)) (by rw [e_]; rfl) | exact (Kd.N_away HO307.out (fun _ hk => hk.1.1.1.2.1)) (by rw [e_]; rfl) | exact (Kd.N_away HO307.out (fun _ hk => hk.2)) (by rw [e_]; rfl) | exact (Kd.N_away HO307.out (fun _ hk => hk.2.1)) (by rw [e_]; rfl) | exact (Kd.N_away HO307.out (fun _ hk => hk.2.2.1)) (by rw [e_]; rfl)) _; (with_reducible repeat first | apply blk_drewN | apply blk_drew | apply blk_alloc); exact BK304.out⟩
     have n4_ : Aside0 ((w77.setCell ⟨go62, (t313 : Int).toNat * 4, none⟩ (.string t335)).heap[gb312]? = some (.cells #[.slice (some ⟨go62, 0, none⟩) t305.length co66, .slice Ao70 t308.length co70] 108 (0, 0))) := ⟨by (with_reducible repeat first | apply blk_drewN | apply blk_drew | apply blk_alloc); refine blk_far ?_ (by intro e_; first | exact (Kd.N_away HO307.out (fun _ hk => hk.1.2)) (by rw [e_]; rfl) | exact (Kd.N_away HO307.out (fun _ hk => hk.1.1.1.2.2.1)) (by rw [e_]; rfl) | exact (Kd.N_away HO307.out (fun _ hk => hk.1.1.2)) (by rw [e_]; rfl) | exact (Kd.N_away HO307.out (fun _ hk => hk.1.1.1.1.2.2.1)) (by rw [e_]; rfl) | exact (Kd.N_away HO307.out (fun _ hk => hk.1.1.1.2)) (by rw [e_]; rfl) | exact (Kd.N_away HO307.out (fun _ hk => hk.1.1.1.2.1)) (by rw [e_]; rfl) | exact (Kd.N_away HO307.out (fun _ hk => hk.2)) (by rw [e_]; rfl) | exact (Kd.N_away HO307.out (fun _ hk => hk.2.1)) (by rw [e_]; rfl) | exact (Kd.N_away HO307.out (fun _ hk => hk.2.2.1)) (by rw [e_]; rfl)) _; (with_reducible repeat first | apply blk_drewN | apply blk_drew | apply blk_alloc); exact BK312.out⟩
     have n5_ : Aside0 (IsS120 w0 (w77.setCell ⟨go62, (t313 : Int).toNat * 4, none⟩ (.string t335)) g s0_0 t336) := ⟨by repeat (first | (with_reducible first | exact HI0.out | apply IsS120.alloc | apply IsS120.drewN | apply IsS120.drew | apply IsS120.set_1 | refine IsS120.far ?_ HN0_go62.out _ | refine IsS120.far ?_ NB0_304.out _ | refine IsS120.far ?_ NB0_312.out _) | exact HI0.out)⟩
     have n6_ : Aside0 (KeepBut w (w77.setCell ⟨go62, (t313 : Int).toNat * 4, none⟩ (.string t335)) g none) := ⟨(zz118 GB62.out GW304.out GW312.out)⟩
     have n7_ : Aside0 (Below w0.heap.size w0 (w77.setCell ⟨go62, (t313 : Int).toNat * 4, none⟩ (.string t335))) := ⟨by repeat (first | (with_reducible first | exact HB.out | apply below_alloc | apply pw_below_drewN | apply below_drew1 | refine below_set ?_ (Nat.le_trans HL.out GB62.out) | refine below_set ?_ (IsS120.ge HI0.out) | refine below_set ?_ GE304.out | refine below_set ?_ GE312.out) | exact HB.out)⟩
     (try clear HO307)
     (try clear HO310)
     (try clear HO334)
     (try clear BK304)
     (try clear BK312)
     (try clear HI0)
     (try clear HK)
     (try clear HB)
     generalize (w77.setCell ⟨go62, (t313 : Int).toNat * 4, none⟩ (.string t335)) = w79 at n0_ n1_ n2_ n3_ n4_ n5_ n6_ n7_ ⊢
     have HO307 := n0_; have HO310 := n1_; have HO334 := n2_; have BK304 := n3_; have BK312 := n4_; have HI0 := n5_; have HK := n6_; have HB := n7_; clear n0_ n1_ n2_ n3_ n4_ n5_ n6_ n7_
     obtain ⟨hcz80_0, hcz80_1, hfz80_0, hfz80_1⟩ := bk2_ BK312.out; have hnb81 := NB304_0.out; have hnc81 := NB0_304.out
     obtain ⟨hcz82_0, hcz82_1, hfz82_0, hfz82_1⟩ := bk2_ BK304.out; try go_wp2
     refine bodyPost_ret (results_cell_row rfl _ _ gb304 108 #[.slice (some ⟨go62, 0, none⟩) t305.length co66, .slice Ao70 t308.length co70] (0, 0) _ rfl (by (with_reducible repeat first | apply blk_drewN | apply blk_drew | apply blk_alloc); refine blk_put (cs := #[.slice (some ⟨go62, 0, none⟩) t305.length co66, .slice none 0 0]) ?_ 1 _ rfl; (with_reducible repeat first | apply blk_drewN | apply blk_drew | apply blk_alloc); refine blk_put (cs := #[.slice none 0 0, .slice none 0 0]) ?_ 0 _ rfl; (with_reducible repeat first | apply blk_drewN | apply blk_drew | apply blk_alloc); exact BK304.out) Try.underlying108 rfl (by kernel_rfl)) rfl ?_
     exact ⟨_, _, zz14, by (with_reducible repeat (first | apply Kd.N_alloc | apply Kd.N_drewN | apply Kd.N_drew)); exact Kd.N_mono (Kd.N_far (p := ⟨gb304, 1, none⟩) (Kd.N_far (p := ⟨gb304, 0, none⟩) (Kd.N_mono HO307.out (fun k_ hk => (⟨hk, hk.2.2.2.1⟩ : _ ∧ k_ ≠ gb304))) (fun _ hk => hk.2) (.slice (some ⟨go62, 0, none⟩) t305.length co66)) (fun _ hk => hk.2) (.slice Ao70 t308.length co70)) (fun _ hk => ⟨hk.1.1, hk.1.2.1⟩), by (with_reducible repeat (first | apply Kd.N_alloc | apply Kd.N_drewN | apply Kd.N_drew)); exact Kd.N_mono (Kd.N_far (p := ⟨gb304, 1, none⟩) (Kd.N_far (p := ⟨gb304, 0, none⟩) (Kd.N_mono HO310.out (fun k_ hk => (⟨hk, hk.2.2.2.1⟩ : _ ∧ k_ ≠ gb304))) (fun _ hk => hk.2) (.slice (some ⟨go62, 0, none⟩) t305.length co66)) (fun _ hk => hk.2) (.slice Ao70 t308.length co70)) (fun _ hk => ⟨hk.1.1, hk.1.2.1⟩), (zz88 HI0.out NB0_304.out NB0_312.out), (zz89 HI0.out GE304.out GE312.out), (zz95 GW304.out GW312.out)⟩
    ·have c58b0 : (t315 == 2) = false := beq_eq_false_iff_ne.mpr c58
     have c58b1 : (t315 != 2) = true := bne_iff_ne.mpr c58
     simp only [Option.some.injEq, Prod.mk.injEq] at H
     obtain ⟨rfl, rfl, rfl⟩ := H
     go_enter Try.func101, Try.ntmps101
     go_wp2_with (first | ((with_reducible refine gate_dst (N := 2) rfl ?_); refine bx_ 2 #[.slice none 0 0, .slice none 0 0] 108 ?_; intro gb304 hg w83 hbox hb; replace HB := zA (zz30 HI0.out); have BK304 := zA (hbox); have GW304 := zA ((zz67 : w.heap.size ≤ gb304)); have GE304 := zA ((Nat.le_trans HW0.out (zz67 : w.heap.size ≤ gb304) : w0.heap.size ≤ gb304)); replace HK := zA zz29; have NB0_304 := zA (((zz68 HI0.out) : g ≠ gb304)); have NB304_0 := zA (((zz69 HI0.out) : gb304 ≠ g)); replace HI0 := zA (zz31 HI0.out); clear hb hbox hg) | ((with_reducible refine gate_callee (f := 107) rfl ?_); refine goesL_ (some 6) rfl rfl Try.func107 (by kernel_rfl) rfl #[.pointer (some ⟨g, 0, none⟩)] rfl zz17 ?_; (with_reducible refine (spec_goodSuite.calls k g s0_0 s0_1 t305 t308 t311 w0 _ ?side1 ?side2 A2.out).mono ?_); (case side1 => exact (zz75 HI0.out NB0_304.out)); (case side2 => exact (zz76 HI0.out GE304.out)); rintro e w84 ⟨v306, v309, rfl, ho0, ho1, hi, hb, hk⟩; refine ⟨_, rfl, ?_⟩; have HO307 := zA (zz122 ho0 ho1 GW304.out BK304.out HI0.out NB0_304.out); have HO310 := zA (zz123 ho1 ho0 GW304.out BK304.out HI0.out NB0_304.out); replace BK304 := zA (zz124 BK304.out NB304_0.out); replace HK := zA (zz125 GW304.out); replace HB := zA (hb); replace HI0 := zA (hi); (try clear hb); (try clear hk); (try clear hi); (try clear ho0); (try clear ho1)) | ((with_reducible refine gate_dst (N := 3) rfl ?_); refine bx_ 3 #[.slice none 0 0, .slice none 0 0] 108 ?_; intro gb312 hg w85 hbox hb; replace HO307 := zA (zz126 HO307.out); replace HO310 := zA (zz126 HO310.out); replace HB := zA (zz72 HI0.out GE304.out); have BK312 := zA (hbox); have GW312 := zA (((zz79 GW304.out) : w.heap.size ≤ gb312)); have GE312 := zA ((Nat.le_trans HW0.out ((zz79 GW304.out) : w.heap.size ≤ gb312) : w0.heap.size ≤ gb312)); replace HK := zA (zz71 GW304.out); have NB304_312 := zA (((zz127 BK304.out) : gb304 ≠ gb312)); have NB312_304 := zA (((zz128 BK304.out) : gb312 ≠ gb304)); replace BK304 := zA (zz129 BK304.out); have NB0_312 := zA (((zz82 HI0.out NB0_304.out) : g ≠ gb312)); have NB312_0 := zA (((zz83 HI0.out NB0_304.out) : gb312 ≠ g)); replace HI0 := zA (zz73 HI0.out NB0_304.out); clear hb hbox hg; obtain ⟨Ao86, co86, eo86⟩ := Kd.N_slice HO307.out; subst eo86; have hnb87 := NB312_304.out; have hnc87 := NB304_312.out; have hnb88 := NB312_0.out; have hnc88 := NB0_312.out; obtain ⟨hcz89_0, hcz89_1, hfz89_0, hfz89_1⟩ := bk2_ BK312.out; obtain ⟨Ao90, co90, eo90⟩ := Kd.N_slice HO310.out; subst eo90) | ((with_reducible refine gate_callee (f := 85) rfl ?_); refine goesL_ (some 15) rfl rfl Try.func85 (by kernel_rfl) rfl #[.pointer (some ⟨g, 0, none⟩), .int .i64 (t305.length : Int)] rfl zz17 ?_; (with_reducible refine (spec_reader_pick.calls k g s0_0 t311 (t305.length : Int) t313 t314 w0 _ ?side1 ?side2 A4.out).mono ?_); (case side1 => exact (zz88 HI0.out NB0_304.out NB0_312.out)); (case side2 => exact (zz89 HI0.out GE304.out GE312.out)); rintro e w91 ⟨rfl, hi, hb, hk⟩; refine ⟨_, rfl, ?_⟩; replace BK304 := zA (zz130 NB304_312.out BK304.out NB304_0.out); replace HO307 := zA (Kd.N_mono (Kd.N_keep (Kd.N_mono (ok := fun k_ => ((((w.heap.size ≤ k_)) ∧ (some k_ ≠ (.slice Ao90 t308.length co90 : Value).ownBlock ∧ (k_ ≠ gb304 ∧ k_ ≠ g))) ∧ k_ ≠ gb312)) (by (with_reducible repeat (first | apply Kd.N_alloc | apply Kd.N_drewN | apply Kd.N_drew)); exact (Kd.N_mono (Kd.N_far (p := ⟨gb312, 1, none⟩) (Kd.N_far (p := ⟨gb312, 0, none⟩) (Kd.N_mono HO307.out (fun k_ hk => (⟨hk, hk.2⟩ : _ ∧ k_ ≠ gb312))) (fun _ hk => hk.2) (.slice Ao86 t305.length co86)) (fun _ hk => hk.2) (.slice Ao90 t308.length co90)) (fun _ h_ => h_.1))) (fun k_ hk_ => (⟨hk_, hk_.1.2.2.2⟩ : _ ∧ k_ ≠ g))) hk (fun _ h => h.2)) (fun _ h => h.1)); replace HO310 := zA (Kd.N_mono (Kd.N_keep (Kd.N_mono (ok := fun k_ => ((((w.heap.size ≤ k_)) ∧ (some k_ ≠ (.slice Ao86 t305.length co86 : Value).ownBlock ∧ (k_ ≠ gb304 ∧ k_ ≠ g))) ∧ k_ ≠ gb312)) (by (with_reducible repeat (first | apply Kd.N_alloc | apply Kd.N_drewN | apply Kd.N_drew)); exact (Kd.N_mono (Kd.N_far (p := ⟨gb312, 1, none⟩) (Kd.N_far (p := ⟨gb312, 0, none⟩) (Kd.N_mono HO310.out (fun k_ hk => (⟨hk, hk.2⟩ : _ ∧ k_ ≠ gb312))) (fun _ hk => hk.2) (.slice Ao86 t305.length co86)) (fun _ hk => hk.2) (.slice Ao90 t308.length co90)) (fun _ h_ => h_.1))) (fun k_ hk_ => (⟨hk_, hk_.1.2.2.2⟩ : _ ∧ k_ ≠ g))) hk (fun _ h => h.2)) (fun _ h => h.1)); replace BK312 := zA (KeepBut.blk hk (g' := gb312) (o := .cells #[.slice Ao86 t305.length co86, .slice Ao90 t308.length co90] 108 (0, 0)) (by (with_reducible repeat first | apply blk_drewN | apply blk_drew | apply blk_alloc); refine blk_put (cs := #[.slice Ao86 t305.length co86, .slice none 0 0]) ?_ 1 _ rfl; (with_reducible repeat first | apply blk_drewN | apply blk_drew | apply blk_alloc); refine blk_put (cs := #[.slice none 0 0, .slice none 0 0]) ?_ 0 _ rfl; (with_reducible repeat first | apply blk_drewN | apply blk_drew | apply blk_alloc); exact BK312.out) NB312_0.out (by simp)); replace HK := zA (zz92 GW304.out GW312.out); replace HB := zA (hb); replace HI0 := zA (hi); (try clear hb); (try clear hk); (try clear hi)) | ((with_reducible refine gate_callee (f := 85) rfl ?_); refine goesL_ (some 17) rfl rfl Try.func85 (by kernel_rfl) rfl #[.pointer (some ⟨g, 0, none⟩), .int .i64 24] rfl zz17 ?_; (with_reducible refine (spec_reader_pick.calls k g s0_0 t314 24 t315 t316 w0 _ ?side1 ?side2 A5.out).mono ?_); (case side1 => exact (zz88 HI0.out NB0_304.out NB0_312.out)); (case side2 => exact (zz89 HI0.out GE304.out GE312.out)); rintro e w92 ⟨rfl, hi, hb, hk⟩; refine ⟨_, rfl, ?_⟩; replace BK304 := zA (zz124 BK304.out NB304_0.out); replace HO307 := zA (Kd.N_mono (Kd.N_keep (Kd.N_mono (ok := fun k_ => ((((w.heap.size ≤ k_)) ∧ (some k_ ≠ (.slice Ao90 t308.length co90 : Value).ownBlock ∧ (k_ ≠ gb304 ∧ k_ ≠ g))) ∧ k_ ≠ gb312)) (zz131 HO307.out) (fun k_ hk_ => (⟨hk_, hk_.1.2.2.2⟩ : _ ∧ k_ ≠ g))) hk (fun _ h => h.2)) (fun _ h => h.1)); replace HO310 := zA (Kd.N_mono (Kd.N_keep (Kd.N_mono (ok := fun k_ => ((((w.heap.size ≤ k_)) ∧ (some k_ ≠ (.slice Ao86 t305.length co86 : Value).ownBlock ∧ (k_ ≠ gb304 ∧ k_ ≠ g))) ∧ k_ ≠ gb312)) (zz131 HO310.out) (fun k_ hk_ => (⟨hk_, hk_.1.2.2.2⟩ : _ ∧ k_ ≠ g))) hk (fun _ h => h.2)) (fun _ h => h.1)); replace BK312 := zA (KeepBut.blk hk (g' := gb312) (o := .cells #[.slice Ao86 t305.length co86, .slice Ao90 t308.length co90] 108 (0, 0)) (zz6 BK312.out) NB312_0.out (by simp)); replace HK := zA (zz92 GW304.out GW312.out); replace HB := zA (hb); replace HI0 := zA (hi); (try clear hb); (try clear hk); (try clear hi); obtain ⟨hcz93_0, hcz93_1, hfz93_0, hfz93_1⟩ := bk2_ BK312.out; have hnb94 := NB304_0.out; have hnc94 := NB0_304.out; obtain ⟨hcz95_0, hcz95_1, hfz95_0, hfz95_1⟩ := bk2_ BK304.out))
     refine bodyPost_ret (results_cell_row rfl _ _ gb304 108 #[.slice Ao86 t305.length co86, .slice Ao90 t308.length co90] (0, 0) _ rfl (by (with_reducible repeat first | apply blk_drewN | apply blk_drew | apply blk_alloc); refine blk_put (cs := #[.slice Ao86 t305.length co86, .slice none 0 0]) ?_ 1 _ rfl; (with_reducible repeat first | apply blk_drewN | apply blk_drew | apply blk_alloc); refine blk_put (cs := #[.slice none 0 0, .slice none 0 0]) ?_ 0 _ rfl; (with_reducible repeat first | apply blk_drewN | apply blk_drew | apply blk_alloc); exact BK304.out) Try.underlying108 rfl (by kernel_rfl)) rfl ?_
     exact ⟨_, _, zz14, by (with_reducible repeat (first | apply Kd.N_alloc | apply Kd.N_drewN | apply Kd.N_drew)); exact Kd.N_mono (Kd.N_far (p := ⟨gb304, 1, none⟩) (Kd.N_far (p := ⟨gb304, 0, none⟩) (Kd.N_mono HO307.out (fun k_ hk => (⟨hk, hk.1.2.2.1⟩ : _ ∧ k_ ≠ gb304))) (fun _ hk => hk.2) (.slice Ao86 t305.length co86)) (fun _ hk => hk.2) (.slice Ao90 t308.length co90)) (fun _ hk => ⟨hk.1.1.1, hk.1.1.2.1⟩), by (with_reducible repeat (first | apply Kd.N_alloc | apply Kd.N_drewN | apply Kd.N_drew)); exact Kd.N_mono (Kd.N_far (p := ⟨gb304, 1, none⟩) (Kd.N_far (p := ⟨gb304, 0, none⟩) (Kd.N_mono HO310.out (fun k_ hk => (⟨hk, hk.1.2.2.1⟩ : _ ∧ k_ ≠ gb304))) (fun _ hk => hk.2) (.slice Ao86 t305.length co86)) (fun _ hk => hk.2) (.slice Ao90 t308.length co90)) (fun _ hk => ⟨hk.1.1.1, hk.1.1.2.1⟩), (zz88 HI0.out NB0_304.out NB0_312.out), (zz89 HI0.out GE304.out GE312.out), (zz95 GW304.out GW312.out)⟩
 ·have c3b0 : decide (0 < (t305.length : Int)) = false := decide_eq_false c3
  have c3b1 : decide (0 < t305.length) = false := decide_eq_false (by omega)
  clear c3
  simp only [Option.some.injEq, Prod.mk.injEq] at H
  obtain ⟨rfl, rfl, rfl⟩ := H
  go_enter Try.func101, Try.ntmps101
  go_wp2_with (first | ((with_reducible refine gate_dst (N := 2) rfl ?_); refine bx_ 2 #[.slice none 0 0, .slice none 0 0] 108 ?_; intro gb304 hg w96 hbox hb; replace HB := zA (zz30 HI0.out); have BK304 := zA (hbox); have GW304 := zA ((zz67 : w.heap.size ≤ gb304)); have GE304 := zA ((Nat.le_trans HW0.out (zz67 : w.heap.size ≤ gb304) : w0.heap.size ≤ gb304)); replace HK := zA zz29; have NB0_304 := zA (((zz68 HI0.out) : g ≠ gb304)); have NB304_0 := zA (((zz69 HI0.out) : gb304 ≠ g)); replace HI0 := zA (zz31 HI0.out); clear hb hbox hg) | ((with_reducible refine gate_callee (f := 107) rfl ?_); refine goesL_ (some 6) rfl rfl Try.func107 (by kernel_rfl) rfl #[.pointer (some ⟨g, 0, none⟩)] rfl zz17 ?_; (with_reducible refine (spec_goodSuite.calls k g s0_0 s0_1 t305 t308 t311 w0 _ ?side1 ?side2 A2.out).mono ?_); (case side1 => exact (zz75 HI0.out NB0_304.out)); (case side2 => exact (zz76 HI0.out GE304.out)); rintro e w97 ⟨v306, v309, rfl, ho0, ho1, hi, hb, hk⟩; refine ⟨_, rfl, ?_⟩; have HO307 := zA (zz122 ho0 ho1 GW304.out BK304.out HI0.out NB0_304.out); have HO310 := zA (zz123 ho1 ho0 GW304.out BK304.out HI0.out NB0_304.out); replace BK304 := zA (zz124 BK304.out NB304_0.out); replace HK := zA (zz125 GW304.out); replace HB := zA (hb); replace HI0 := zA (hi); (try clear hb); (try clear hk); (try clear hi); (try clear ho0); (try clear ho1)) | ((with_reducible refine gate_dst (N := 3) rfl ?_); refine bx_ 3 #[.slice none 0 0, .slice none 0 0] 108 ?_; intro gb312 hg w98 hbox hb; replace HO307 := zA (zz126 HO307.out); replace HO310 := zA (zz126 HO310.out); replace HB := zA (zz72 HI0.out GE304.out); have BK312 := zA (hbox); have GW312 := zA (((zz79 GW304.out) : w.heap.size ≤ gb312)); have GE312 := zA ((Nat.le_trans HW0.out ((zz79 GW304.out) : w.heap.size ≤ gb312) : w0.heap.size ≤ gb312)); replace HK := zA (zz71 GW304.out); have NB304_312 := zA (((zz127 BK304.out) : gb304 ≠ gb312)); have NB312_304 := zA (((zz128 BK304.out) : gb312 ≠ gb304)); replace BK304 := zA (zz129 BK304.out); have NB0_312 := zA (((zz82 HI0.out NB0_304.out) : g ≠ gb312)); have NB312_0 := zA (((zz83 HI0.out NB0_304.out) : gb312 ≠ g)); replace HI0 := zA (zz73 HI0.out NB0_304.out); clear hb hbox hg; obtain ⟨Ao99, co99, eo99⟩ := Kd.N_slice HO307.out; subst eo99; have hnb100 := NB312_304.out; have hnc100 := NB304_312.out; have hnb101 := NB312_0.out; have hnc101 := NB0_312.out; obtain ⟨hcz102_0, hcz102_1, hfz102_0, hfz102_1⟩ := bk2_ BK312.out; obtain ⟨Ao103, co103, eo103⟩ := Kd.N_slice HO310.out; subst eo103; have hnb104 := NB304_0.out; have hnc104 := NB0_304.out; obtain ⟨hcz105_0, hcz105_1, hfz105_0, hfz105_1⟩ := bk2_ BK304.out))
  refine bodyPost_ret (results_cell_row rfl _ _ gb304 108 #[.slice Ao99 t305.length co99, .slice Ao103 t308.length co103] (0, 0) _ rfl (by (with_reducible repeat first | apply blk_drewN | apply blk_drew | apply blk_alloc); refine blk_put (cs := #[.slice Ao99 t305.length co99, .slice none 0 0]) ?_ 1 _ rfl; (with_reducible repeat first | apply blk_drewN | apply blk_drew | apply blk_alloc); refine blk_put (cs := #[.slice none 0 0, .slice none 0 0]) ?_ 0 _ rfl; (with_reducible repeat first | apply blk_drewN | apply blk_drew | apply blk_alloc); refine blk_far ?_ NB304_312.out _; (with_reducible repeat first | apply blk_drewN | apply blk_drew | apply blk_alloc); refine blk_far ?_ NB304_312.out _; (with_reducible repeat first | apply blk_drewN | apply blk_drew | apply blk_alloc); exact BK304.out) Try.underlying108 rfl (by kernel_rfl)) rfl ?_
  exact ⟨_, _, zz14, by (with_reducible repeat (first | apply Kd.N_alloc | apply Kd.N_drewN | apply Kd.N_drew)); exact Kd.N_mono (Kd.N_far (p := ⟨gb304, 1, none⟩) (Kd.N_far (p := ⟨gb304, 0, none⟩) (Kd.N_far (p := ⟨gb312, 1, none⟩) (Kd.N_far (p := ⟨gb312, 0, none⟩) (Kd.N_mono (Kd.N_mono HO307.out (fun k_ hk => (⟨hk, hk.2⟩ : _ ∧ k_ ≠ gb312))) (fun k_ hk => (⟨hk, hk.1.1.2.2.1⟩ : _ ∧ k_ ≠ gb304))) (fun _ hk => hk.1.2) (.slice Ao99 t305.length co99)) (fun _ hk => hk.1.2) (.slice Ao103 t308.length co103)) (fun _ hk => hk.2) (.slice Ao99 t305.length co99)) (fun _ hk => hk.2) (.slice Ao103 t308.length co103)) (fun _ hk => ⟨hk.1.1.1.1, hk.1.1.1.2.1⟩), by (with_reducible repeat (first | apply Kd.N_alloc | apply Kd.N_drewN | apply Kd.N_drew)); exact Kd.N_mono (Kd.N_far (p := ⟨gb304, 1, none⟩) (Kd.N_far (p := ⟨gb304, 0, none⟩) (Kd.N_far (p := ⟨gb312, 1, none⟩) (Kd.N_far (p := ⟨gb312, 0, none⟩) (Kd.N_mono (Kd.N_mono HO310.out (fun k_ hk => (⟨hk, hk.2⟩ : _ ∧ k_ ≠ gb312))) (fun k_ hk => (⟨hk, hk.1.1.2.2.1⟩ : _ ∧ k_ ≠ gb304))) (fun _ hk => hk.1.2) (.slice Ao99 t305.length co99)) (fun _ hk => hk.1.2) (.slice Ao103 t308.length co103)) (fun _ hk => hk.2) (.slice Ao99 t305.length co99)) (fun _ hk => hk.2) (.slice Ao103 t308.length co103)) (fun _ hk => ⟨hk.1.1.1.1, hk.1.1.1.2.1⟩), (zz88 HI0.out NB0_304.out NB0_312.out), (zz89 HI0.out GE304.out GE312.out), (zz95 GW304.out GW312.out)⟩

/-! ### spec_inRange: function 97 -/
def spec_inRange.f (a0 : Int) (a1 : Int) (a2 : Int) : Option (Bool) := if a1 ≤ a0 then (some (decide (a0 ≤ a2))) else (some false)
set_option maxHeartbeats 8000000 in
set_option maxRecDepth 100000 in
theorem spec_inRange.calls (a0 : Int) (a1 : Int) (a2 : Int) (r : Bool) (w : World) (h : spec_inRange.f a0 a1 a2 = some r) :
  Calls Try.prog 97 #[.int .i64 a0, .int .i64 a1, .int .i64 a2] w fun e w' => e = .returned (.bool r) ∧ Drawn0 w w' := by
 have H : (if a1 ≤ a0 then (some (decide (a0 ≤ a2))) else (some false)) = some r := h
 clear h
 rcases iu_ H with ⟨c4b0, H⟩ | ⟨c4b0, H⟩
 ·obtain rfl := Option.some.inj H
  go_enter Try.func97, Try.ntmps97
  go_wp2
  go_ret
  exact ⟨zz9, zz19⟩
 ·obtain rfl := Option.some.inj H
  go_enter Try.func97, Try.ntmps97
  go_wp2
  go_ret
  exact ⟨zz9, zz19⟩

end Go.Proofs.Ytieghkchhjailaa.S
