-- WRITTEN by wip/ext.py
import Derived.Test.YtieghkchhjailaaSx0
import Derived.Test.YtieghkchhjailaaSx1
import Derived.Test.YtieghkchhjailaaSx2
import Derived.Test.YtieghkchhjailaaSx10
namespace Go.Proofs.Ytieghkchhjailaa.S
open Go.RowKit Go.Proofs.YtieghkchhjailaaW.PrintWords Go.Proofs.YtieghkchhjailaaW.PrintLast Go.Proofs.YtieghkchhjailaaW.PrintMore
attribute [local go_sem] max2_int min2_int max_two min_two max_three min_three max_four min_four   -- for this text's walks alone
set_option linter.unusedVariables false
set_option linter.unusedSimpArgs false

/-! ### spec_circular: function 124 -/
def spec_circular.l0 : Nat → ByteArray → List ByteArray → Int → List (S133) → List (S137) → Option (Bool)
 | 0, _, _, _, _, _ => none
 | k + 1, x1, x5, x6, x414000, x414001 => if x6 < (x5.length : Int) then (if 0 ≤ x6 then ((spec_fixtureAt.f k x414000 (rdOf ByteArray.empty x5 x6)).bind fun t421 => (if t421 ≥ 0 then (if 0 ≤ t421 then (if t421 < (x414000.length : Int) then ((spec_hasText.f k ((rd_T133 x414000 t421).f2) x1).bind fun t423 => (if t423 = true then (some true) else (spec_circular.l0 k x1 x5 (wrap64 (x6 + 1)) x414000 x414001))) else (none)) else (none)) else (spec_circular.l0 k x1 x5 (wrap64 (x6 + 1)) x414000 x414001))) else (none)) else (some false)
def spec_circular.f (k : Nat) (l0_0 : List (S133)) (l0_1 : List (S137)) (a1 : ByteArray) : Option (Bool) := (spec_needs.f k l0_0 l0_1 a1).bind fun t414 => (if t414.length < 8796093022208 then (spec_circular.l0 k a1 (t414 ++ [a1]) 0 l0_0 l0_1) else (none))
theorem spec_circular.mono_l : ∀ k, (∀ y0 y1 y2 y3 y4, LeO (spec_circular.l0 k y0 y1 y2 y3 y4) (spec_circular.l0 (k + 1) y0 y1 y2 y3 y4))
 | 0 => fun _ _ _ _ _ r h => by simp [spec_circular.l0] at h
 | k + 1 => by
  have ih0 := spec_circular.mono_l k
  ·intro y0 y1 y2 y3 y4
   unfold spec_circular.l0
   repeat' first | (with_reducible first | exact ih0 _ _ _ _ _ | exact spec_fixtureAt.mono _ _ _ | exact spec_hasText.mono _ _ _ | exact spec_needs.mono _ _ _ _ | exact le1_ | exact le2_ | apply LeO.ite | refine LeO.bind ?_ fun _ => ?_) | apply LeO.ite | refine LeO.bind ?_ fun _ => ?_
theorem spec_circular.mono : ∀ a0 a1 a2 k, LeO (spec_circular.f k a0 a1 a2) (spec_circular.f (k + 1) a0 a1 a2) := by
 intro a0 a1 a2 k
 have ih0 := spec_circular.mono_l k
 unfold spec_circular.f
 repeat' first | (with_reducible first | exact ih0 _ _ _ _ _ | exact spec_fixtureAt.mono _ _ _ | exact spec_hasText.mono _ _ _ | exact spec_needs.mono _ _ _ _ | exact le1_ | exact le2_ | apply LeO.ite | refine LeO.bind ?_ fun _ => ?_) | apply LeO.ite | refine LeO.bind ?_ fun _ => ?_
set_option maxHeartbeats 8000000 in
set_option maxRecDepth 100000 in
theorem spec_circular.calls (k : Nat) (A0_0 : Option Addr) (c0_0 : Nat) (l0_0 : List (S133)) (A0_1 : Option Addr) (c0_1 : Nat) (l0_1 : List (S137)) (a1 : ByteArray) (r : Bool) (w : World) (hr0_0 : Kd.C k133 w A0_0 l0_0.length l0_0) (hc0_0 : l0_0.length ≤ c0_0) (hr0_1 : Kd.C k137 w A0_1 l0_1.length l0_1) (hc0_1 : l0_1.length ≤ c0_1) (h : spec_circular.f k l0_0 l0_1 a1 = some r) :
  Calls Try.prog 124 #[.agg #[.slice A0_0 l0_0.length c0_0, .slice A0_1 l0_1.length c0_1], .string a1] w fun e w' => e = .returned (.bool r) ∧ Below w.heap.size w w' := by
 have hu108 := Try.underlying108; have HR0_0 := zA hr0_0; have HC0_0 := zA hc0_0; clear hr0_0 hc0_0; have HR0_1 := zA hr0_1; have HC0_1 := zA hc0_1; clear hr0_1 hc0_1; have HB := zA zz2
 have H : ((spec_needs.f k l0_0 l0_1 a1).bind fun t414 => (if t414.length < 8796093022208 then (spec_circular.l0 k a1 (t414 ++ [a1]) 0 l0_0 l0_1) else (none))) = some r := h
 clear h
 obtain ⟨t414, A3, H⟩ := bs_ H
 (try dsimp only at H)
 rcases ie_ H with ⟨c4, H⟩ | ⟨c4, H⟩
 ·have LMc4 := zA c4; clear c4
  obtain ⟨y417, hy417⟩ : ∃ y_ : List ByteArray, y_ = (t414 ++ [a1]) := ⟨_, rfl⟩
  replace H : (spec_circular.l0 k a1 y417 0 l0_0 l0_1) = some r := (zz24 hy417)
  have Ny417 := zA hy417; clear hy417; have H' := zA H; clear H
  go_enter Try.func124, Try.ntmps124
  go_wp2_with (first | ((with_reducible refine gate_dst (N := 2) rfl ?_); refine bx_ 2 #[.slice A0_0 l0_0.length c0_0, .slice A0_1 l0_1.length c0_1] 108 ?_; intro gb413 hg w5 hbox hb; have BK413 := zA (hbox); have GW413 := zA ((zz38 : w.heap.size ≤ gb413)); have GE413 := zA ((zz38 : w.heap.size ≤ gb413)); replace HB := zA zz4; clear hb hbox hg; obtain ⟨hcz6_0, hcz6_1, hfz6_0, hfz6_1⟩ := bk2_ BK413.out) | (go_at_call 131; (with_reducible refine (spec_needs.calls k _ _ l0_0 _ _ l0_1 a1 t414 _ ?side1 ?side2 ?side3 ?side4 A3.out).mono ?_); (case side1 => exact (zz62 HR0_0.out)); (case side2 => exact HC0_0.out); (case side3 => exact (zz62 HR0_1.out)); (case side4 => exact HC0_1.out); rintro e w7 ⟨v415, rfl, ho0, hb⟩; have HO416 := zA (zz160 ho0 GE413.out); replace BK413 := zA (blk_below (g := gb413) (o := .cells #[.slice A0_0 l0_0.length c0_0, .slice A0_1 l0_1.length c0_1] 108 (0, 0)) (zz6 BK413.out) hb); replace HB := zA (zz138 GE413.out); (try clear hb); (try clear ho0)) | ((with_reducible refine gate_builtin (b := .append) (xs := #[.tmp 10, .tmp 12]) rfl ?_); at_builtin; refine Kd.R_append Kd.string (w0 := w) w.heap.size rfl (.tmp 10) (.tmp 12) 31 9 (.string ⟨#[]⟩) 16 rfl Try.underlying31 info9 rfl (by decide) (by omega) v415 t414 a1 [.string a1] (fun _ => True) (fun _ => False) rfl rfl ?aP (fun _ hk => hk.elim) ?aF ?aO ?aB ?aS ?aL ?_; (case aP => exact rfl); (case aB => exact (zz153 GE413.out)); (case aF => exact zz163); (case aO => exact (zz26 HO416.out)); (case aS => exact (zz154 GE413.out)); (case aL => have := LMc4.out; omega); intro v418 w8 ho hb hg hat; rw [← Ny417.out] at ho; replace BK413 := zA (blk_grown (g := gb413) (o := .cells #[.slice A0_0 l0_0.length c0_0, .slice A0_1 l0_1.length c0_1] 108 (0, 0)) (zz6 BK413.out) hg (Kd.R_ne HO416.out BK413.out (by decide))); replace HB := zA (hb); have HO419 := zA (ho); clear HO416; clear ho hb hg hat))
  repeat (go_quiet (fail); try go_wp2_with (fail))
  go_loopg [6] k (fun kq v6 w' => ∃ (x6_1 : Int), v6 = .int .i64 x6_1 ∧ Aside0 (spec_circular.l0 kq a1 y417 x6_1 l0_0 l0_1 = some r) ∧ Aside0 (kq ≤ k) ∧ Aside0 (Kd.R Kd.string 9 w' w.heap.size (fun _ => True) v418 y417) ∧ Aside0 (w'.heap[gb413]? = some (.cells #[(.slice A0_0 l0_0.length c0_0), (.slice A0_1 l0_1.length c0_1)] 108 (0, 0))) ∧ Aside0 (Below w.heap.size w w'))
  case atStart => exact ⟨(0), zz9, H', ⟨Nat.le_refl _⟩, ⟨(zz22 HO419.out)⟩, ⟨(zz6 BK413.out)⟩, ⟨(zz7 GE413.out)⟩⟩
  case round =>
   clear H'; try clear c1; try clear p2; try clear c4; try clear hcz6_0; try clear hcz6_1; try clear hfz6_0; try clear hfz6_1
   obtain ⟨x6_1, rfl, HA, HK1, HO_5, BK413, HB⟩ := hrel
   cases gk with
   | zero => exact absurd HA.out (by simp [spec_circular.l0])
   | succ k1 =>
    have H := HA.out; clear HA
    simp only [spec_circular.l0] at H
    rcases iu_ H with ⟨c9b0, H⟩ | ⟨c9b0, H⟩
    ·obtain ⟨c10b0, H⟩ := it_ H
     obtain ⟨t421, A11, H⟩ := bs_ H
     (try dsimp only at H)
     rcases ie_ H with ⟨c12, H⟩ | ⟨c12, H⟩
     ·have c12b0 : decide (0 ≤ t421) = true := decide_eq_true c12
      clear c12
      obtain ⟨c13b0, H⟩ := it_ H
      obtain ⟨c14b0, H⟩ := it_ H
      obtain ⟨t423, A15, H⟩ := bs_ H
      (try dsimp only at H)
      by_cases c16 : t423 = true
      ·subst c16
       have H1 : (some true) = some r := by rw [if_pos rfl] at H; exact H
       clear H; have H := H1; clear H1
       obtain rfl := Option.some.inj H
       obtain ⟨Ao17, co17, eo17⟩ := Kd.R_slice HO_5.out
       subst eo17
       obtain ⟨hcz18_0, hcz18_1, hfz18_0, hfz18_1⟩ := bk2_ BK413.out
       have p420 : 0 ≤ (x6_1 : Int) := dz_
       have q420 : x6_1 < (y417.length : Int) := dz_
       obtain ⟨ad420, e420, hx420_0⟩ := Kd.at_string (Kd.R_reads' HO_5.out).2.2 x6_1 p420 q420
       cases e420
       replace p420 := eq_true p420
       replace q420 := eq_true q420
       go_wp2_with (fail)
       try (have p422 : 0 ≤ (t421 : Int) := dz_; have q422 : t421 < (l0_0.length : Int) := dz_; obtain ⟨ad422, A422_2, c422_2, e422, hx422_0, hx422_1, hx422_2, hx422_3, hl422_2, hi422_2⟩ := at_T133 HR0_0.out t421 p422 q422; cases e422; replace hx422_0 := cup_ HB.out hx422_0; replace hx422_1 := cup_ HB.out hx422_1; replace hx422_2 := cup_ HB.out hx422_2; replace hx422_3 := cup_ HB.out hx422_3; have HR422_2 := zA hi422_2; have HC422_2 := zA hl422_2; clear hi422_2 hl422_2; replace p422 := eq_true p422; replace q422 := eq_true q422)
       repeat (go_quiet ((go_at_call 120; (with_reducible refine (spec_fixtureAt.calls k1 _ _ l0_0 (rdOf ByteArray.empty y417 x6_1) t421 _ ?side1 ?side2 A11.out).mono ?_); (case side1 => exact (zz62 HR0_0.out)); (case side2 => exact HC0_0.out); rintro e w' ⟨rfl, ⟨nd, rfl⟩⟩; (try exact dr_))); try go_wp2_with ((go_at_call 92; (with_reducible refine (spec_hasText.calls k1 _ _ ((rd_T133 l0_0 t421).f2) a1 true _ ?side1 ?side2 A15.out).mono ?_); (case side1 => exact (zz136 HR422_2.out GE413.out)); (case side2 => exact HC422_2.out); rintro e w' ⟨rfl, ⟨nd, rfl⟩⟩; (try exact dr_))))
       go_ret
       exact ⟨zz14, (zz7 GE413.out)⟩
      ·replace c16 := Bool.eq_false_iff.mpr c16
       subst c16
       have H1 : (spec_circular.l0 k1 a1 y417 (wrap64 (x6_1 + 1)) l0_0 l0_1) = some r := by rw [if_neg (show ¬ (false = true) by decide)] at H; exact H
       clear H; have H := H1; clear H1; have H' := zA H; clear H
       obtain ⟨Ao19, co19, eo19⟩ := Kd.R_slice HO_5.out
       subst eo19
       obtain ⟨hcz20_0, hcz20_1, hfz20_0, hfz20_1⟩ := bk2_ BK413.out
       have p420 : 0 ≤ (x6_1 : Int) := dz_
       have q420 : x6_1 < (y417.length : Int) := dz_
       obtain ⟨ad420, e420, hx420_0⟩ := Kd.at_string (Kd.R_reads' HO_5.out).2.2 x6_1 p420 q420
       cases e420
       replace p420 := eq_true p420
       replace q420 := eq_true q420
       go_wp2_with (fail)
       try (have p422 : 0 ≤ (t421 : Int) := dz_; have q422 : t421 < (l0_0.length : Int) := dz_; obtain ⟨ad422, A422_2, c422_2, e422, hx422_0, hx422_1, hx422_2, hx422_3, hl422_2, hi422_2⟩ := at_T133 HR0_0.out t421 p422 q422; cases e422; replace hx422_0 := cup_ HB.out hx422_0; replace hx422_1 := cup_ HB.out hx422_1; replace hx422_2 := cup_ HB.out hx422_2; replace hx422_3 := cup_ HB.out hx422_3; have HR422_2 := zA hi422_2; have HC422_2 := zA hl422_2; clear hi422_2 hl422_2; replace p422 := eq_true p422; replace q422 := eq_true q422)
       repeat (go_quiet ((go_at_call 120; (with_reducible refine (spec_fixtureAt.calls k1 _ _ l0_0 (rdOf ByteArray.empty y417 x6_1) t421 _ ?side1 ?side2 A11.out).mono ?_); (case side1 => exact (zz62 HR0_0.out)); (case side2 => exact HC0_0.out); rintro e w' ⟨rfl, ⟨nd, rfl⟩⟩; (try exact dr_))); try go_wp2_with ((go_at_call 92; (with_reducible refine (spec_hasText.calls k1 _ _ ((rd_T133 l0_0 t421).f2) a1 false _ ?side1 ?side2 A15.out).mono ?_); (case side1 => exact (zz136 HR422_2.out GE413.out)); (case side2 => exact HC422_2.out); rintro e w' ⟨rfl, ⟨nd, rfl⟩⟩; (try exact dr_))))
       go_roundg k1
       case measure => have := HK1.out; omega
       case rel => exact ⟨(wrap64 (x6_1 + 1)), zz9, H', ⟨by have := HK1.out; omega⟩, ⟨(zz22 HO_5.out)⟩, ⟨(zz6 BK413.out)⟩, ⟨(zz7 GE413.out)⟩⟩
     ·have c12b0 : decide (0 ≤ t421) = false := decide_eq_false c12
      clear c12; have H' := zA H; clear H
      obtain ⟨Ao21, co21, eo21⟩ := Kd.R_slice HO_5.out
      subst eo21
      obtain ⟨hcz22_0, hcz22_1, hfz22_0, hfz22_1⟩ := bk2_ BK413.out
      have p420 : 0 ≤ (x6_1 : Int) := dz_
      have q420 : x6_1 < (y417.length : Int) := dz_
      obtain ⟨ad420, e420, hx420_0⟩ := Kd.at_string (Kd.R_reads' HO_5.out).2.2 x6_1 p420 q420
      cases e420
      replace p420 := eq_true p420
      replace q420 := eq_true q420
      go_wp2_with (fail)
      repeat (go_quiet ((go_at_call 120; (with_reducible refine (spec_fixtureAt.calls k1 _ _ l0_0 (rdOf ByteArray.empty y417 x6_1) t421 _ ?side1 ?side2 A11.out).mono ?_); (case side1 => exact (zz62 HR0_0.out)); (case side2 => exact HC0_0.out); rintro e w' ⟨rfl, ⟨nd, rfl⟩⟩; (try exact dr_))); try go_wp2_with (fail))
      go_roundg k1
      case measure => have := HK1.out; omega
      case rel => exact ⟨(wrap64 (x6_1 + 1)), zz9, H', ⟨by have := HK1.out; omega⟩, ⟨(zz22 HO_5.out)⟩, ⟨(zz6 BK413.out)⟩, ⟨(zz7 GE413.out)⟩⟩
    ·obtain rfl := Option.some.inj H
     obtain ⟨Ao23, co23, eo23⟩ := Kd.R_slice HO_5.out
     subst eo23
     go_wp2
     repeat (go_quiet (fail); try go_wp2)
     go_ret
     exact ⟨zz14, (zz7 GE413.out)⟩
 ·exact absurd H (by simp)

end Go.Proofs.Ytieghkchhjailaa.S
