-- WRITTEN by wip/ext.py
import Derived.Test.YtieghkchhjailaaSx0
import Derived.Test.YtieghkchhjailaaSx1
namespace Go.Proofs.Ytieghkchhjailaa.S
open Go.RowKit Go.Proofs.YtieghkchhjailaaW.PrintWords Go.Proofs.YtieghkchhjailaaW.PrintLast Go.Proofs.YtieghkchhjailaaW.PrintMore
attribute [local go_sem] max2_int min2_int max_two min_two max_three min_three max_four min_four   -- for this text's walks alone
set_option linter.unusedVariables false
set_option linter.unusedSimpArgs false

/-! ### spec_fixtureAt: function 120 -/
def spec_fixtureAt.l0 : Nat → List (S133) → ByteArray → Int → Option (Int)
 | 0, _, _, _ => none
 | k + 1, x0, x1, x5 => if x5 < (x0.length : Int) then (if 0 ≤ x5 then (if ((rd_T133 x0 x5).f0).toList = x1.toList then (some x5) else (spec_fixtureAt.l0 k x0 x1 (wrap64 (x5 + 1)))) else (none)) else (some (-1))
def spec_fixtureAt.f (k : Nat) (l0 : List (S133)) (a1 : ByteArray) : Option (Int) := spec_fixtureAt.l0 k l0 a1 0
theorem spec_fixtureAt.mono_l : ∀ k, (∀ y0 y1 y2, LeO (spec_fixtureAt.l0 k y0 y1 y2) (spec_fixtureAt.l0 (k + 1) y0 y1 y2))
 | 0 => fun _ _ _ r h => by simp [spec_fixtureAt.l0] at h
 | k + 1 => by
  have ih0 := spec_fixtureAt.mono_l k
  ·intro y0 y1 y2
   unfold spec_fixtureAt.l0
   repeat' first | (with_reducible first | exact ih0 _ _ _ | exact le1_ | exact le2_ | apply LeO.ite | refine LeO.bind ?_ fun _ => ?_) | apply LeO.ite | refine LeO.bind ?_ fun _ => ?_
theorem spec_fixtureAt.mono : ∀ a0 a1 k, LeO (spec_fixtureAt.f k a0 a1) (spec_fixtureAt.f (k + 1) a0 a1) := by
 intro a0 a1 k
 have ih0 := spec_fixtureAt.mono_l k
 unfold spec_fixtureAt.f
 repeat' first | (with_reducible first | exact ih0 _ _ _ | exact le1_ | exact le2_ | apply LeO.ite | refine LeO.bind ?_ fun _ => ?_) | apply LeO.ite | refine LeO.bind ?_ fun _ => ?_
set_option maxHeartbeats 8000000 in
set_option maxRecDepth 100000 in
theorem spec_fixtureAt.calls (k : Nat) (A0 : Option Addr) (c0 : Nat) (l0 : List (S133)) (a1 : ByteArray) (r : Int) (w : World) (hr0 : Kd.C k133 w A0 l0.length l0) (hc0 : l0.length ≤ c0) (h : spec_fixtureAt.f k l0 a1 = some r) :
  Calls Try.prog 120 #[.slice A0 l0.length c0, .string a1] w fun e w' => e = .returned (.int .i64 r) ∧ Drawn0 w w' := by
 have HR0 := zA hr0; have HC0 := zA hc0; clear hr0 hc0
 have H : (spec_fixtureAt.l0 k l0 a1 0) = some r := h
 clear h; have H' := zA H; clear H
 go_enter Try.func120, Try.ntmps120
 go_wp2
 go_loopg [5] k (fun kq v5 w' => ∃ (x5_1 : Int), v5 = .int .i64 x5_1 ∧ Aside0 (spec_fixtureAt.l0 kq l0 a1 x5_1 = some r) ∧ Aside0 (kq ≤ k) ∧ Drawn0 w w')
 case atStart => exact ⟨(0), zz9, H', ⟨Nat.le_refl _⟩, zz19⟩
 case round =>
  clear H'; try clear c1; try clear p2
  obtain ⟨x5_1, rfl, HA, HK1, ⟨m1, rfl⟩⟩ := hrel
  cases gk with
  | zero => exact absurd HA.out (by simp [spec_fixtureAt.l0])
  | succ k1 =>
   have H := HA.out; clear HA
   simp only [spec_fixtureAt.l0] at H
   rcases iu_ H with ⟨c3b0, H⟩ | ⟨c3b0, H⟩
   ·obtain ⟨c4b0, H⟩ := it_ H
    rcases ie_ H with ⟨c5, H⟩ | ⟨c5, H⟩
    ·have c5b0 : (((rd_T133 l0 x5_1).f0).toList == a1.toList) = true := beq_iff_eq.mpr c5
     have c5b1 : (((rd_T133 l0 x5_1).f0).toList != a1.toList) = false := bne_eq_false_iff_eq.mpr c5
     clear c5
     obtain rfl := Option.some.inj H
     have p132 : 0 ≤ (x5_1 : Int) := dz_
     have q132 : x5_1 < (l0.length : Int) := dz_
     obtain ⟨ad132, A132_2, c132_2, e132, hx132_0, hx132_1, hx132_2, hx132_3, hl132_2, hi132_2⟩ := at_T133 HR0.out x5_1 p132 q132
     cases e132
     have HR132_2 := zA hi132_2; have HC132_2 := zA hl132_2; clear hi132_2 hl132_2
     replace p132 := eq_true p132
     replace q132 := eq_true q132
     go_wp2
     go_ret
     exact ⟨zz9, zz19⟩
    ·have c5b0 : (((rd_T133 l0 x5_1).f0).toList == a1.toList) = false := beq_eq_false_iff_ne.mpr c5
     have c5b1 : (((rd_T133 l0 x5_1).f0).toList != a1.toList) = true := bne_iff_ne.mpr c5
     have H' := zA H; clear H
     have p132 : 0 ≤ (x5_1 : Int) := dz_
     have q132 : x5_1 < (l0.length : Int) := dz_
     obtain ⟨ad132, A132_2, c132_2, e132, hx132_0, hx132_1, hx132_2, hx132_3, hl132_2, hi132_2⟩ := at_T133 HR0.out x5_1 p132 q132
     cases e132
     have HR132_2 := zA hi132_2; have HC132_2 := zA hl132_2; clear hi132_2 hl132_2
     replace p132 := eq_true p132
     replace q132 := eq_true q132
     go_wp2
     go_roundg k1
     case measure => have := HK1.out; omega
     case rel => exact ⟨(wrap64 (x5_1 + 1)), zz9, H', ⟨by have := HK1.out; omega⟩, zz19⟩
   ·obtain rfl := Option.some.inj H
    go_wp2
    go_ret
    exact ⟨zz9, zz19⟩

/-! ### spec_aModule: function 106 -/
def spec_aModule.f (k : Nat) (s0_0 : List Int) (s0_1 : Int) : Option (ByteArray × Int) := (spec_reader_of.f k s0_0 s0_1 (([(⟨#[109]⟩ : ByteArray), (⟨#[110]⟩ : ByteArray), (⟨#[109]⟩ : ByteArray), (⟨#[107]⟩ : ByteArray)] : List ByteArray))).bind fun bt136 => (some (bt136.1, bt136.2))
theorem spec_aModule.mono : ∀ a0 a1 k, LeO (spec_aModule.f k a0 a1) (spec_aModule.f (k + 1) a0 a1) := by
 intro a0 a1 k
 unfold spec_aModule.f
 repeat' first | (with_reducible first | exact spec_reader_of.mono _ _ _ _ | exact le1_ | exact le2_ | apply LeO.ite | refine LeO.bind ?_ fun _ => ?_) | apply LeO.ite | refine LeO.bind ?_ fun _ => ?_
set_option maxHeartbeats 8000000 in
set_option maxRecDepth 100000 in
theorem spec_aModule.calls (k : Nat) (g : Nat) (s0_0 : List Int) (s0_1 : Int) (r1 : ByteArray) (r2 : Int) (w0 w : World) (hI : IsS120 w0 w g s0_0 s0_1) (hB : Below w0.heap.size w0 w) (h : spec_aModule.f k s0_0 s0_1 = some (r1, r2)) :
  Calls Try.prog 106 #[.pointer (some ⟨g, 0, none⟩)] w fun e w' => e = .returned (.string r1) ∧ IsS120 w0 w' g s0_0 r2 ∧ Below w0.heap.size w0 w' ∧ KeepBut w w' g none := by
 have HI0 := zA hI; have HK := zA zz8; have HL := zA hB.size; clear hI; have HW0 := zA hB.size; have HB := zA hB; clear hB
 have H : ((spec_reader_of.f k s0_0 s0_1 (([(⟨#[109]⟩ : ByteArray), (⟨#[110]⟩ : ByteArray), (⟨#[109]⟩ : ByteArray), (⟨#[107]⟩ : ByteArray)] : List ByteArray))).bind fun bt136 => (some (bt136.1, bt136.2))) = some (r1, r2) := h
 clear h
 obtain ⟨y133, hy133⟩ : ∃ y_ : List ByteArray, y_ = (([(⟨#[109]⟩ : ByteArray), (⟨#[110]⟩ : ByteArray), (⟨#[109]⟩ : ByteArray), (⟨#[107]⟩ : ByteArray)] : List ByteArray)) := ⟨_, rfl⟩
 replace H : ((spec_reader_of.f k s0_0 s0_1 y133).bind fun bt136 => (some (bt136.1, bt136.2))) = some (r1, r2) := (zz24 hy133)
 have Ny133 := zA hy133; clear hy133
 obtain ⟨⟨t136, t137⟩, A2, H⟩ := bs_ H
 (try dsimp only at H)
 simp only [Option.some.injEq, Prod.mk.injEq] at H
 obtain ⟨rfl, rfl⟩ := H
 go_enter Try.func106, Try.ntmps106
 go_wp2_with (first | ((with_reducible refine gate_dst (N := 4) rfl ?_); refine Kd.R_lit Kd.string _ 9 ?hg (N := 4) ?hd (xs := ([(⟨#[109]⟩ : ByteArray), (⟨#[110]⟩ : ByteArray), (⟨#[109]⟩ : ByteArray), (⟨#[107]⟩ : ByteArray)] : List ByteArray)) (inner := [.string (⟨#[109]⟩ : ByteArray), .string (⟨#[110]⟩ : ByteArray), .string (⟨#[109]⟩ : ByteArray), .string (⟨#[107]⟩ : ByteArray)]) (ok := fun _ => True) (okp := fun _ => True) ?hr ?hp (fun _ hk => hk) trivial (Below.refl _ _) (Nat.le_refl _) (by simp) ?_; (case hd => rfl); (case hg => rfl); (case hr => exact zz32); (case hp => exact (Reps.one (show Kd.M Kd.string _ _ _ (⟨#[109]⟩ : ByteArray) [.string (⟨#[109]⟩ : ByteArray)] from rfl) (Reps.one (show Kd.M Kd.string _ _ _ (⟨#[110]⟩ : ByteArray) [.string (⟨#[110]⟩ : ByteArray)] from rfl) (Reps.one (show Kd.M Kd.string _ _ _ (⟨#[109]⟩ : ByteArray) [.string (⟨#[109]⟩ : ByteArray)] from rfl) (Reps.one (show Kd.M Kd.string _ _ _ (⟨#[107]⟩ : ByteArray) [.string (⟨#[107]⟩ : ByteArray)] from rfl) (Reps.none _ _)))))); intro v134 w3 ho4 hb hg_ hnew_; clear hg_ hnew_; replace ho4 := ny_ Ny133.out ho4; have HO135 := zA (zz28 ho4); replace HK := zA zz29; replace HB := zA (zz30 HI0.out); replace HI0 := zA (zz31 HI0.out); clear hb ho4; obtain ⟨Ao5, co5, eo5⟩ := Kd.R_slice HO135.out; subst eo5) | ((with_reducible refine gate_callee (f := 87) rfl ?_); refine goesL_ (some 5) rfl rfl Try.func87 (by kernel_rfl) rfl #[.pointer (some ⟨g, 0, none⟩), .slice Ao5 y133.length co5] rfl zz17 ?_; (with_reducible refine (spec_reader_of.calls k g s0_0 s0_1 _ _ y133 t136 t137 w0 _ ?side1 ?side2 ?side3 ?side4 ?side5 A2.out).mono ?_); (case side1 => exact (zz11 HI0.out)); (case side2 => exact (zz13 HI0.out)); (case side3 => exact (zz20 HO135.out)); (case side4 => exact (zz21 HO135.out)); (case side5 => exact (zz34 HI0.out HO135.out)); rintro e w6 ⟨rfl, hi, hb, hk⟩; refine ⟨_, rfl, ?_⟩; replace HO135 := zA (zz35 HI0.out HO135.out); replace HK := zA zz18; replace HB := zA (hb); replace HI0 := zA (hi); (try clear hb); (try clear hk); (try clear hi)))
 go_ret
 exact ⟨zz14, (zz11 HI0.out), (zz13 HI0.out), zz12⟩

/-! ### spec_idOf: function 114 -/
def spec_idOf.f (a0_0 : ByteArray) (a0_1 : ByteArray) (l0_2 : List ByteArray) (l0_3 : List ByteArray) : Option (ByteArray) := if a0_0.size + 1 ≤ 9223372036854775807 then (if a0_0.size + 1 + a0_1.size ≤ 9223372036854775807 then (some ((a0_0 ++ (⟨#[46]⟩ : ByteArray)) ++ a0_1)) else (none)) else (none)
set_option maxHeartbeats 8000000 in
set_option maxRecDepth 100000 in
theorem spec_idOf.calls (a0_0 : ByteArray) (a0_1 : ByteArray) (A0_2 : Option Addr) (c0_2 : Nat) (l0_2 : List ByteArray) (A0_3 : Option Addr) (c0_3 : Nat) (l0_3 : List ByteArray) (r : ByteArray) (w : World) (hr0_2 : Kd.C Kd.string w A0_2 l0_2.length l0_2) (hc0_2 : l0_2.length ≤ c0_2) (hr0_3 : Kd.C Kd.string w A0_3 l0_3.length l0_3) (hc0_3 : l0_3.length ≤ c0_3) (h : spec_idOf.f a0_0 a0_1 l0_2 l0_3 = some r) :
  Calls Try.prog 114 #[.agg #[.string a0_0, .string a0_1, .slice A0_2 l0_2.length c0_2, .slice A0_3 l0_3.length c0_3]] w fun e w' => e = .returned (.string r) ∧ Below w.heap.size w w' := by
 have hu137 := Try.underlying137; have HR0_2 := zA hr0_2; have HC0_2 := zA hc0_2; clear hr0_2 hc0_2; have HR0_3 := zA hr0_3; have HC0_3 := zA hc0_3; clear hr0_3 hc0_3; have HB := zA zz2
 have H : (if a0_0.size + 1 ≤ 9223372036854775807 then (if a0_0.size + 1 + a0_1.size ≤ 9223372036854775807 then (some ((a0_0 ++ (⟨#[46]⟩ : ByteArray)) ++ a0_1)) else (none)) else (none)) = some r := h
 clear h
 rcases ie_ H with ⟨c2, H⟩ | ⟨c2, H⟩
 ·have c2b0 := eq_true c2
  have c2b1 : decide (a0_0.size + 1 ≤ 9223372036854775807) = true := decide_eq_true c2
  try have c2b2 : (9223372036854775807 < a0_0.size + 1) = False := eq_false (Nat.not_lt.2 c2)
  obtain ⟨c3, H⟩ := in_ H
  have c3b0 := eq_true c3
  have c3b1 : decide (a0_0.size + 1 + a0_1.size ≤ 9223372036854775807) = true := decide_eq_true c3
  try have c3b2 : (9223372036854775807 < a0_0.size + 1 + a0_1.size) = False := eq_false (Nat.not_lt.2 c3)
  obtain rfl := Option.some.inj H
  go_enter Try.func114, Try.ntmps114
  go_wp2_with (((with_reducible refine gate_dst (N := 1) rfl ?_); refine bx_ 1 #[.string a0_0, .string a0_1, .slice A0_2 l0_2.length c0_2, .slice A0_3 l0_3.length c0_3] 137 ?_; intro gb138 hg w4 hbox hb; have BK138 := zA (hbox); have GW138 := zA ((zz38 : w.heap.size ≤ gb138)); have GE138 := zA ((zz38 : w.heap.size ≤ gb138)); replace HB := zA zz4; clear hb hbox hg; obtain ⟨hcz5_0, hcz5_1, hcz5_2, hcz5_3, hfz5_0, hfz5_1, hfz5_2, hfz5_3⟩ := bk4_ BK138.out))
  go_ret
  exact ⟨zz14, (zz7 GE138.out)⟩
 ·exact absurd H (by simp)

end Go.Proofs.Ytieghkchhjailaa.S
