-- WRITTEN by wip/ext.py
import Derived.Test.YtieghkchhjailaaSx0
import Derived.Test.YtieghkchhjailaaSx2
import Derived.Test.YtieghkchhjailaaSx6
import Derived.Test.YtieghkchhjailaaSx7
import Derived.Test.YtieghkchhjailaaSx8
namespace Go.Proofs.Ytieghkchhjailaa.S
open Go.RowKit Go.Proofs.YtieghkchhjailaaW.PrintWords Go.Proofs.YtieghkchhjailaaW.PrintLast Go.Proofs.YtieghkchhjailaaW.PrintMore
attribute [local go_sem] max2_int min2_int max_two min_two max_three min_three max_four min_four   -- for this text's walks alone
set_option linter.unusedVariables false
set_option linter.unusedSimpArgs false

/-! ### spec_wellFormed: function 108 -/
def spec_wellFormed.l0 : Nat → Int → List (S133) → List (S137) → Option (Bool)
 | 0, _, _, _ => none
 | k + 1, x3, x362000, x362001 => if x3 < (x362000.length : Int) then (if 0 ≤ x3 then ((spec_validName.f k ((rd_T133 x362000 x3).f0)).bind fun t365 => (if t365 = true then (if x3 ≤ (x362000.length : Int) then ((spec_fixtureAt.f k (x362000.take (x3 : Int).toNat) ((rd_T133 x362000 x3).f0)).bind fun t370 => (if t370 ≥ 0 then (some false) else ((spec_inRange.f ((rd_T133 x362000 x3).f1) 0 2).bind fun t371 => (if t371 = true then ((spec_validNames.f k ((rd_T133 x362000 x3).f2) 4).bind fun t372 => (if t372 = true then (spec_wellFormed.l0 k (wrap64 (x3 + 1)) x362000 x362001) else (some false))) else (some false))))) else (none)) else (some false))) else (none)) else ((spec_validTests.f k x362001).bind fun t362 => (if t362 = true then (some (decide ((x362000.length : Int) ≤ 6))) else (some false)))
def spec_wellFormed.f (k : Nat) (l0_0 : List (S133)) (l0_1 : List (S137)) : Option (Bool) := spec_wellFormed.l0 k 0 l0_0 l0_1
theorem spec_wellFormed.mono_l : ∀ k, (∀ y0 y1 y2, LeO (spec_wellFormed.l0 k y0 y1 y2) (spec_wellFormed.l0 (k + 1) y0 y1 y2))
 | 0 => fun _ _ _ r h => by simp [spec_wellFormed.l0] at h
 | k + 1 => by
  have ih0 := spec_wellFormed.mono_l k
  ·intro y0 y1 y2
   unfold spec_wellFormed.l0
   repeat' first | (with_reducible first | exact ih0 _ _ _ | exact spec_fixtureAt.mono _ _ _ | exact spec_validName.mono _ _ | exact spec_validNames.mono _ _ _ | exact spec_validTests.mono _ _ | exact le1_ | exact le2_ | apply LeO.ite | refine LeO.bind ?_ fun _ => ?_) | apply LeO.ite | refine LeO.bind ?_ fun _ => ?_
theorem spec_wellFormed.mono : ∀ a0 a1 k, LeO (spec_wellFormed.f k a0 a1) (spec_wellFormed.f (k + 1) a0 a1) := by
 intro a0 a1 k
 have ih0 := spec_wellFormed.mono_l k
 unfold spec_wellFormed.f
 repeat' first | (with_reducible first | exact ih0 _ _ _ | exact spec_fixtureAt.mono _ _ _ | exact spec_validName.mono _ _ | exact spec_validNames.mono _ _ _ | exact spec_validTests.mono _ _ | exact le1_ | exact le2_ | apply LeO.ite | refine LeO.bind ?_ fun _ => ?_) | apply LeO.ite | refine LeO.bind ?_ fun _ => ?_
set_option maxHeartbeats 8000000 in
set_option maxRecDepth 100000 in
theorem spec_wellFormed.calls (k : Nat) (A0_0 : Option Addr) (c0_0 : Nat) (l0_0 : List (S133)) (A0_1 : Option Addr) (c0_1 : Nat) (l0_1 : List (S137)) (r : Bool) (w : World) (hr0_0 : Kd.C k133 w A0_0 l0_0.length l0_0) (hc0_0 : l0_0.length ≤ c0_0) (hr0_1 : Kd.C k137 w A0_1 l0_1.length l0_1) (hc0_1 : l0_1.length ≤ c0_1) (h : spec_wellFormed.f k l0_0 l0_1 = some r) :
  Calls Try.prog 108 #[.agg #[.slice A0_0 l0_0.length c0_0, .slice A0_1 l0_1.length c0_1]] w fun e w' => e = .returned (.bool r) ∧ Below w.heap.size w w' := by
 have hu108 := Try.underlying108; have hu133 := Try.underlying133; have HR0_0 := zA hr0_0; have HC0_0 := zA hc0_0; clear hr0_0 hc0_0; have HR0_1 := zA hr0_1; have HC0_1 := zA hc0_1; clear hr0_1 hc0_1; have HB := zA zz2
 have H : (spec_wellFormed.l0 k 0 l0_0 l0_1) = some r := h
 clear h; have H' := zA H; clear H
 go_enter Try.func108, Try.ntmps108
 go_wp2_with (((with_reducible refine gate_dst (N := 1) rfl ?_); (try (refine gate_guard (by rfl) ?_; dsimp only)); refine bx_ 1 #[.slice A0_0 l0_0.length c0_0, .slice A0_1 l0_1.length c0_1] 108 ?_; intro gb361 hg w2 hbox hb; have BK361 := zA (hbox); have GW361 := zA ((zz38 : w.heap.size ≤ gb361)); have GE361 := zA ((zz38 : w.heap.size ≤ gb361)); replace HB := zA zz4; clear hb hbox hg))
 repeat (go_quiet (fail); try go_wp2_with (fail))
 go_loopg [3] k (fun kq v3 w' => ∃ (x3_1 : Int), v3 = .int .i64 x3_1 ∧ Aside0 (spec_wellFormed.l0 kq x3_1 l0_0 l0_1 = some r) ∧ Aside0 (kq ≤ k) ∧ Aside0 (w'.heap[gb361]? = some (.cells #[(.slice A0_0 l0_0.length c0_0), (.slice A0_1 l0_1.length c0_1)] 108 (0, 0))) ∧ Aside0 (Below w.heap.size w w'))
 case atStart => exact ⟨(0), zz9, H', ⟨Nat.le_refl _⟩, ⟨(zz6 BK361.out)⟩, ⟨(zz7 GE361.out)⟩⟩
 case round =>
  clear H'; try clear c1; try clear p2
  obtain ⟨x3_1, rfl, HA, HK1, BK361, HB⟩ := hrel
  cases gk with
  | zero => exact absurd HA.out (by simp [spec_wellFormed.l0])
  | succ k1 =>
   have H := HA.out; clear HA
   simp only [spec_wellFormed.l0] at H
   rcases iu_ H with ⟨c3b0, H⟩ | ⟨c3b0, H⟩
   ·obtain ⟨c4b0, H⟩ := it_ H
    obtain ⟨t365, A5, H⟩ := bs_ H
    (try dsimp only at H)
    by_cases c6 : t365 = true
    ·subst c6
     have H1 : (if x3_1 ≤ (l0_0.length : Int) then ((spec_fixtureAt.f k1 (l0_0.take (x3_1 : Int).toNat) ((rd_T133 l0_0 x3_1).f0)).bind fun t370 => (if t370 ≥ 0 then (some false) else ((spec_inRange.f ((rd_T133 l0_0 x3_1).f1) 0 2).bind fun t371 => (if t371 = true then ((spec_validNames.f k1 ((rd_T133 l0_0 x3_1).f2) 4).bind fun t372 => (if t372 = true then (spec_wellFormed.l0 k1 (wrap64 (x3_1 + 1)) l0_0 l0_1) else (some false))) else (some false))))) else (none)) = some r := by rw [if_pos rfl] at H; exact H
     clear H; have H := H1; clear H1; have c7b0 := eq_true (of_decide_eq_true zz3 : 0 ≤ x3_1)
     obtain ⟨c8, H⟩ := in_ H
     have c8b0 := eq_true c8
     have c8b1 : decide (x3_1 ≤ (l0_0.length : Int)) = true := decide_eq_true c8
     clear c8
     obtain ⟨y366, hy366⟩ : ∃ y_ : List (S133), y_ = (l0_0.take (x3_1 : Int).toNat) := ⟨_, rfl⟩
     replace H : ((spec_fixtureAt.f k1 y366 ((rd_T133 l0_0 x3_1).f0)).bind fun t370 => (if t370 ≥ 0 then (some false) else ((spec_inRange.f ((rd_T133 l0_0 x3_1).f1) 0 2).bind fun t371 => (if t371 = true then ((spec_validNames.f k1 ((rd_T133 l0_0 x3_1).f2) 4).bind fun t372 => (if t372 = true then (spec_wellFormed.l0 k1 (wrap64 (x3_1 + 1)) l0_0 l0_1) else (some false))) else (some false))))) = some r := (zz24 hy366)
     have Ny366 := zA hy366; clear hy366
     obtain ⟨t370, A9, H⟩ := bs_ H
     (try dsimp only at H)
     rcases ie_ H with ⟨c10, H⟩ | ⟨c10, H⟩
     ·have c10b0 : decide (0 ≤ t370) = true := decide_eq_true c10
      clear c10
      obtain rfl := Option.some.inj H
      obtain ⟨hcz11_0, hcz11_1, hfz11_0, hfz11_1⟩ := bk2_ BK361.out
      have p363 : 0 ≤ (x3_1 : Int) := dz_
      have q363 : x3_1 < (l0_0.length : Int) := dz_
      obtain ⟨ad363, A363_2, c363_2, e363, hx363_0, hx363_1, hx363_2, hx363_3, hl363_2, hi363_2⟩ := at_T133 HR0_0.out x3_1 p363 q363
      cases e363
      replace hx363_0 := cup_ HB.out hx363_0; replace hx363_1 := cup_ HB.out hx363_1; replace hx363_2 := cup_ HB.out hx363_2; replace hx363_3 := cup_ HB.out hx363_3
      have HR363_2 := zA hi363_2; have HC363_2 := zA hl363_2; clear hi363_2 hl363_2
      replace p363 := eq_true p363
      replace q363 := eq_true q363
      go_wp2_with (first | ((with_reducible refine gate_dst (N := 4) rfl ?_); (try (refine gate_guard (by rfl) ?_; dsimp only)); refine bx_ 4 #[.string (⟨#[]⟩ : ByteArray), .int .i64 0, .slice none 0 0, .bool false] 133 ?_; intro gb364 hg w12 hbox hb; have BK364 := zA (hbox); have GW364 := zA (((zz137 GE361.out) : w.heap.size ≤ gb364)); have GE364 := zA (((zz137 GE361.out) : w.heap.size ≤ gb364)); replace HB := zA (zz138 GE361.out); have NB361_364 := zA (((zz139 BK361.out) : gb361 ≠ gb364)); have NB364_361 := zA (((zz140 BK361.out) : gb364 ≠ gb361)); replace BK361 := zA (zz141 BK361.out); clear hb hbox hg; have hnb13 := NB364_361.out; have hnc13 := NB361_364.out; obtain ⟨hcz14_0, hcz14_1, hcz14_2, hcz14_3, hfz14_0, hfz14_1, hfz14_2, hfz14_3⟩ := bk4_ BK364.out) | ((with_reducible refine gate_store (t := 133) (p := 4) rfl ?_); (try (rw [drewN_self w12]; generalize hq_ : World.drewN w12 _ = w12; replace BK361 := zA (blk_at hq_ BK361.out); replace BK364 := zA (blk_at hq_ BK364.out); replace HB := zA (below_at hq_ HB.out); clear hq_)); refine store_event (t := 133) (p := 4) (v := ?vo_w15) (w1 := ((((w12.setCell ⟨gb364, 0, none⟩ (.string ((rd_T133 l0_0 x3_1).f0))).setCell ⟨gb364, 1, none⟩ (.int .i64 ((rd_T133 l0_0 x3_1).f1))).setCell ⟨gb364, 2, none⟩ (.slice A363_2 ((rd_T133 l0_0 x3_1).f2).length c363_2)).setCell ⟨gb364, 3, none⟩ (.bool ((rd_T133 l0_0 x3_1).f3)))) ?hg ?ho ?hn ?hr ?_; (case ho => rfl); (case hg => rfl); (case hn => rfl); (case hr => exact zz32); intro w15 hw; have n0_ : Aside0 (w15.heap[gb361]? = some (.cells #[.slice (some ad363) l0_0.length c0_0, .slice A0_1 l0_1.length c0_1] 108 (0, 0))) := ⟨(zz142 NB361_364.out BK361.out)⟩; have n1_ : Aside0 (w15.heap[gb364]? = some (.cells #[.string ((rd_T133 l0_0 x3_1).f0), .int .i64 ((rd_T133 l0_0 x3_1).f1), .slice A363_2 ((rd_T133 l0_0 x3_1).f2).length c363_2, .bool ((rd_T133 l0_0 x3_1).f3)] 133 (0, 0))) := ⟨(zz143 BK364.out)⟩; have n2_ : Aside0 (Below w.heap.size w w15) := ⟨(zz144 GE361.out GE364.out)⟩; clear hw; clear BK361; clear BK364; clear HB; have BK361 := n0_; have BK364 := n1_; have HB := n2_; clear n0_ n1_ n2_; obtain ⟨hcz16_0, hcz16_1, hcz16_2, hcz16_3, hfz16_0, hfz16_1, hfz16_2, hfz16_3⟩ := bk4_ BK364.out))
      try (obtain ⟨hcz17_0, hcz17_1, hfz17_0, hfz17_1⟩ := bk2_ BK361.out; have q18 : (x3_1 : Int) ≤ ((l0_0.length : Int) : Int) := dz_; obtain ⟨i018, hi018, _, hsz18, _⟩ := info_parts info133; have hroom18 : l0_0.length ≤ c0_0 := HC0_0.out; have hC18 : Kd.C k133 _ (some ad363) l0_0.length l0_0 := HR0_0.out; have hcut18 := cut_to (P := Try.prog) 105 133 .i64 Try.underlying105 hi018 (some ad363) l0_0.length c0_0 x3_1 (of_decide_eq_true zz3) q18 hroom18; have hr18 := Kd.C_take (m := (x3_1 : Int).toNat) hC18 (by omega); have hy18 : y366.length = (x3_1 : Int).toNat := (zz42 Ny366.out); rw [← Ny366.out] at hr18; rw [← hy18] at hcut18; have HR369 := zA hr18; have HC369 := zA (show y366.length ≤ c0_0 from by omega); clear hr18 hC18 hroom18 hi018 hsz18; have KY18 := zA hy18; clear hy18; replace q18 := eq_true q18)
      repeat (go_quiet (first | (go_at_call 89; (with_reducible refine (spec_validName.calls k1 ((rd_T133 l0_0 x3_1).f0) true _ A5.out).mono ?_); rintro e w' ⟨rfl, ⟨nd, rfl⟩⟩; (try exact dr_)) | (go_at_call 120; (with_reducible refine (spec_fixtureAt.calls k1 _ _ y366 ((rd_T133 l0_0 x3_1).f0) t370 _ ?side1 ?side2 A9.out).mono ?_); (case side1 => exact (zz145 HR369.out GE361.out GE364.out)); (case side2 => exact HC369.out); rintro e w' ⟨rfl, ⟨nd, rfl⟩⟩; (try exact dr_))); try go_wp2_with (fail))
      go_ret
      exact ⟨zz14, (zz146 GE361.out GE364.out)⟩
     ·have c10b0 : decide (0 ≤ t370) = false := decide_eq_false c10
      clear c10
      obtain ⟨t371, A19, H⟩ := bs_ H
      (try dsimp only at H)
      by_cases c20 : t371 = true
      ·subst c20
       have H1 : ((spec_validNames.f k1 ((rd_T133 l0_0 x3_1).f2) 4).bind fun t372 => (if t372 = true then (spec_wellFormed.l0 k1 (wrap64 (x3_1 + 1)) l0_0 l0_1) else (some false))) = some r := by rw [if_pos rfl] at H; exact H
       clear H; have H := H1; clear H1
       obtain ⟨t372, A21, H⟩ := bs_ H
       (try dsimp only at H)
       by_cases c22 : t372 = true
       ·subst c22
        have H1 : (spec_wellFormed.l0 k1 (wrap64 (x3_1 + 1)) l0_0 l0_1) = some r := by rw [if_pos rfl] at H; exact H
        clear H; have H := H1; clear H1; have H' := zA H; clear H
        obtain ⟨hcz23_0, hcz23_1, hfz23_0, hfz23_1⟩ := bk2_ BK361.out
        have p363 : 0 ≤ (x3_1 : Int) := dz_
        have q363 : x3_1 < (l0_0.length : Int) := dz_
        obtain ⟨ad363, A363_2, c363_2, e363, hx363_0, hx363_1, hx363_2, hx363_3, hl363_2, hi363_2⟩ := at_T133 HR0_0.out x3_1 p363 q363
        cases e363
        replace hx363_0 := cup_ HB.out hx363_0; replace hx363_1 := cup_ HB.out hx363_1; replace hx363_2 := cup_ HB.out hx363_2; replace hx363_3 := cup_ HB.out hx363_3
        have HR363_2 := zA hi363_2; have HC363_2 := zA hl363_2; clear hi363_2 hl363_2
        replace p363 := eq_true p363
        replace q363 := eq_true q363
        go_wp2_with (first | ((with_reducible refine gate_dst (N := 4) rfl ?_); (try (refine gate_guard (by rfl) ?_; dsimp only)); refine bx_ 4 #[.string (⟨#[]⟩ : ByteArray), .int .i64 0, .slice none 0 0, .bool false] 133 ?_; intro gb364 hg w24 hbox hb; have BK364 := zA (hbox); have GW364 := zA (((zz137 GE361.out) : w.heap.size ≤ gb364)); have GE364 := zA (((zz137 GE361.out) : w.heap.size ≤ gb364)); replace HB := zA (zz138 GE361.out); have NB361_364 := zA (((zz139 BK361.out) : gb361 ≠ gb364)); have NB364_361 := zA (((zz140 BK361.out) : gb364 ≠ gb361)); replace BK361 := zA (zz141 BK361.out); clear hb hbox hg; have hnb25 := NB364_361.out; have hnc25 := NB361_364.out; obtain ⟨hcz26_0, hcz26_1, hcz26_2, hcz26_3, hfz26_0, hfz26_1, hfz26_2, hfz26_3⟩ := bk4_ BK364.out) | ((with_reducible refine gate_store (t := 133) (p := 4) rfl ?_); (try (rw [drewN_self w24]; generalize hq_ : World.drewN w24 _ = w24; replace BK361 := zA (blk_at hq_ BK361.out); replace BK364 := zA (blk_at hq_ BK364.out); replace HB := zA (below_at hq_ HB.out); clear hq_)); refine store_event (t := 133) (p := 4) (v := ?vo_w27) (w1 := ((((w24.setCell ⟨gb364, 0, none⟩ (.string ((rd_T133 l0_0 x3_1).f0))).setCell ⟨gb364, 1, none⟩ (.int .i64 ((rd_T133 l0_0 x3_1).f1))).setCell ⟨gb364, 2, none⟩ (.slice A363_2 ((rd_T133 l0_0 x3_1).f2).length c363_2)).setCell ⟨gb364, 3, none⟩ (.bool ((rd_T133 l0_0 x3_1).f3)))) ?hg ?ho ?hn ?hr ?_; (case ho => rfl); (case hg => rfl); (case hn => rfl); (case hr => exact zz32); intro w27 hw; have n0_ : Aside0 (w27.heap[gb361]? = some (.cells #[.slice (some ad363) l0_0.length c0_0, .slice A0_1 l0_1.length c0_1] 108 (0, 0))) := ⟨(zz142 NB361_364.out BK361.out)⟩; have n1_ : Aside0 (w27.heap[gb364]? = some (.cells #[.string ((rd_T133 l0_0 x3_1).f0), .int .i64 ((rd_T133 l0_0 x3_1).f1), .slice A363_2 ((rd_T133 l0_0 x3_1).f2).length c363_2, .bool ((rd_T133 l0_0 x3_1).f3)] 133 (0, 0))) := ⟨(zz143 BK364.out)⟩; have n2_ : Aside0 (Below w.heap.size w w27) := ⟨(zz144 GE361.out GE364.out)⟩; clear hw; clear BK361; clear BK364; clear HB; have BK361 := n0_; have BK364 := n1_; have HB := n2_; clear n0_ n1_ n2_; obtain ⟨hcz28_0, hcz28_1, hcz28_2, hcz28_3, hfz28_0, hfz28_1, hfz28_2, hfz28_3⟩ := bk4_ BK364.out))
        try (obtain ⟨hcz29_0, hcz29_1, hfz29_0, hfz29_1⟩ := bk2_ BK361.out; have q30 : (x3_1 : Int) ≤ ((l0_0.length : Int) : Int) := dz_; obtain ⟨i030, hi030, _, hsz30, _⟩ := info_parts info133; have hroom30 : l0_0.length ≤ c0_0 := HC0_0.out; have hC30 : Kd.C k133 _ (some ad363) l0_0.length l0_0 := HR0_0.out; have hcut30 := cut_to (P := Try.prog) 105 133 .i64 Try.underlying105 hi030 (some ad363) l0_0.length c0_0 x3_1 (of_decide_eq_true zz3) q30 hroom30; have hr30 := Kd.C_take (m := (x3_1 : Int).toNat) hC30 (by omega); have hy30 : y366.length = (x3_1 : Int).toNat := (zz42 Ny366.out); rw [← Ny366.out] at hr30; rw [← hy30] at hcut30; have HR369 := zA hr30; have HC369 := zA (show y366.length ≤ c0_0 from by omega); clear hr30 hC30 hroom30 hi030 hsz30; have KY30 := zA hy30; clear hy30; replace q30 := eq_true q30)
        repeat (go_quiet (first | (go_at_call 89; (with_reducible refine (spec_validName.calls k1 ((rd_T133 l0_0 x3_1).f0) true _ A5.out).mono ?_); rintro e w' ⟨rfl, ⟨nd, rfl⟩⟩; (try exact dr_)) | (go_at_call 120; (with_reducible refine (spec_fixtureAt.calls k1 _ _ y366 ((rd_T133 l0_0 x3_1).f0) t370 _ ?side1 ?side2 A9.out).mono ?_); (case side1 => exact (zz145 HR369.out GE361.out GE364.out)); (case side2 => exact HC369.out); rintro e w' ⟨rfl, ⟨nd, rfl⟩⟩; (try exact dr_)) | (go_at_call 97; (with_reducible refine (spec_inRange.calls ((rd_T133 l0_0 x3_1).f1) 0 2 true _ A19.out).mono ?_); rintro e w' ⟨rfl, ⟨nd, rfl⟩⟩; (try exact dr_)) | (go_at_call 122; (with_reducible refine (spec_validNames.calls k1 _ _ ((rd_T133 l0_0 x3_1).f2) 4 true _ ?side1 ?side2 A21.out).mono ?_); (case side1 => exact (zz145 HR363_2.out GE361.out GE364.out)); (case side2 => exact HC363_2.out); rintro e w' ⟨rfl, ⟨nd, rfl⟩⟩; (try exact dr_))); try go_wp2_with (fail))
        go_roundg k1
        case measure => have := HK1.out; omega
        case rel => exact ⟨(wrap64 (x3_1 + 1)), zz9, H', ⟨by have := HK1.out; omega⟩, ⟨(zz6 BK361.out)⟩, ⟨(zz146 GE361.out GE364.out)⟩⟩
       ·replace c22 := Bool.eq_false_iff.mpr c22
        subst c22
        have H1 : (some false) = some r := by rw [if_neg (show ¬ (false = true) by decide)] at H; exact H
        clear H; have H := H1; clear H1
        obtain rfl := Option.some.inj H
        obtain ⟨hcz31_0, hcz31_1, hfz31_0, hfz31_1⟩ := bk2_ BK361.out
        have p363 : 0 ≤ (x3_1 : Int) := dz_
        have q363 : x3_1 < (l0_0.length : Int) := dz_
        obtain ⟨ad363, A363_2, c363_2, e363, hx363_0, hx363_1, hx363_2, hx363_3, hl363_2, hi363_2⟩ := at_T133 HR0_0.out x3_1 p363 q363
        cases e363
        replace hx363_0 := cup_ HB.out hx363_0; replace hx363_1 := cup_ HB.out hx363_1; replace hx363_2 := cup_ HB.out hx363_2; replace hx363_3 := cup_ HB.out hx363_3
        have HR363_2 := zA hi363_2; have HC363_2 := zA hl363_2; clear hi363_2 hl363_2
        replace p363 := eq_true p363
        replace q363 := eq_true q363
        go_wp2_with (first | ((with_reducible refine gate_dst (N := 4) rfl ?_); (try (refine gate_guard (by rfl) ?_; dsimp only)); refine bx_ 4 #[.string (⟨#[]⟩ : ByteArray), .int .i64 0, .slice none 0 0, .bool false] 133 ?_; intro gb364 hg w32 hbox hb; have BK364 := zA (hbox); have GW364 := zA (((zz137 GE361.out) : w.heap.size ≤ gb364)); have GE364 := zA (((zz137 GE361.out) : w.heap.size ≤ gb364)); replace HB := zA (zz138 GE361.out); have NB361_364 := zA (((zz139 BK361.out) : gb361 ≠ gb364)); have NB364_361 := zA (((zz140 BK361.out) : gb364 ≠ gb361)); replace BK361 := zA (zz141 BK361.out); clear hb hbox hg; have hnb33 := NB364_361.out; have hnc33 := NB361_364.out; obtain ⟨hcz34_0, hcz34_1, hcz34_2, hcz34_3, hfz34_0, hfz34_1, hfz34_2, hfz34_3⟩ := bk4_ BK364.out) | ((with_reducible refine gate_store (t := 133) (p := 4) rfl ?_); (try (rw [drewN_self w32]; generalize hq_ : World.drewN w32 _ = w32; replace BK361 := zA (blk_at hq_ BK361.out); replace BK364 := zA (blk_at hq_ BK364.out); replace HB := zA (below_at hq_ HB.out); clear hq_)); refine store_event (t := 133) (p := 4) (v := ?vo_w35) (w1 := ((((w32.setCell ⟨gb364, 0, none⟩ (.string ((rd_T133 l0_0 x3_1).f0))).setCell ⟨gb364, 1, none⟩ (.int .i64 ((rd_T133 l0_0 x3_1).f1))).setCell ⟨gb364, 2, none⟩ (.slice A363_2 ((rd_T133 l0_0 x3_1).f2).length c363_2)).setCell ⟨gb364, 3, none⟩ (.bool ((rd_T133 l0_0 x3_1).f3)))) ?hg ?ho ?hn ?hr ?_; (case ho => rfl); (case hg => rfl); (case hn => rfl); (case hr => exact zz32); intro w35 hw; have n0_ : Aside0 (w35.heap[gb361]? = some (.cells #[.slice (some ad363) l0_0.length c0_0, .slice A0_1 l0_1.length c0_1] 108 (0, 0))) := ⟨(zz142 NB361_364.out BK361.out)⟩; have n1_ : Aside0 (w35.heap[gb364]? = some (.cells #[.string ((rd_T133 l0_0 x3_1).f0), .int .i64 ((rd_T133 l0_0 x3_1).f1), .slice A363_2 ((rd_T133 l0_0 x3_1).f2).length c363_2, .bool ((rd_T133 l0_0 x3_1).f3)] 133 (0, 0))) := ⟨(zz143 BK364.out)⟩; have n2_ : Aside0 (Below w.heap.size w w35) := ⟨(zz144 GE361.out GE364.out)⟩; clear hw; clear BK361; clear BK364; clear HB; have BK361 := n0_; have BK364 := n1_; have HB := n2_; clear n0_ n1_ n2_; obtain ⟨hcz36_0, hcz36_1, hcz36_2, hcz36_3, hfz36_0, hfz36_1, hfz36_2, hfz36_3⟩ := bk4_ BK364.out))
        try (obtain ⟨hcz37_0, hcz37_1, hfz37_0, hfz37_1⟩ := bk2_ BK361.out; have q38 : (x3_1 : Int) ≤ ((l0_0.length : Int) : Int) := dz_; obtain ⟨i038, hi038, _, hsz38, _⟩ := info_parts info133; have hroom38 : l0_0.length ≤ c0_0 := HC0_0.out; have hC38 : Kd.C k133 _ (some ad363) l0_0.length l0_0 := HR0_0.out; have hcut38 := cut_to (P := Try.prog) 105 133 .i64 Try.underlying105 hi038 (some ad363) l0_0.length c0_0 x3_1 (of_decide_eq_true zz3) q38 hroom38; have hr38 := Kd.C_take (m := (x3_1 : Int).toNat) hC38 (by omega); have hy38 : y366.length = (x3_1 : Int).toNat := (zz42 Ny366.out); rw [← Ny366.out] at hr38; rw [← hy38] at hcut38; have HR369 := zA hr38; have HC369 := zA (show y366.length ≤ c0_0 from by omega); clear hr38 hC38 hroom38 hi038 hsz38; have KY38 := zA hy38; clear hy38; replace q38 := eq_true q38)
        repeat (go_quiet (first | (go_at_call 89; (with_reducible refine (spec_validName.calls k1 ((rd_T133 l0_0 x3_1).f0) true _ A5.out).mono ?_); rintro e w' ⟨rfl, ⟨nd, rfl⟩⟩; (try exact dr_)) | (go_at_call 120; (with_reducible refine (spec_fixtureAt.calls k1 _ _ y366 ((rd_T133 l0_0 x3_1).f0) t370 _ ?side1 ?side2 A9.out).mono ?_); (case side1 => exact (zz145 HR369.out GE361.out GE364.out)); (case side2 => exact HC369.out); rintro e w' ⟨rfl, ⟨nd, rfl⟩⟩; (try exact dr_)) | (go_at_call 97; (with_reducible refine (spec_inRange.calls ((rd_T133 l0_0 x3_1).f1) 0 2 true _ A19.out).mono ?_); rintro e w' ⟨rfl, ⟨nd, rfl⟩⟩; (try exact dr_)) | (go_at_call 122; (with_reducible refine (spec_validNames.calls k1 _ _ ((rd_T133 l0_0 x3_1).f2) 4 false _ ?side1 ?side2 A21.out).mono ?_); (case side1 => exact (zz145 HR363_2.out GE361.out GE364.out)); (case side2 => exact HC363_2.out); rintro e w' ⟨rfl, ⟨nd, rfl⟩⟩; (try exact dr_))); try go_wp2_with (fail))
        go_ret
        exact ⟨zz14, (zz146 GE361.out GE364.out)⟩
      ·replace c20 := Bool.eq_false_iff.mpr c20
       subst c20
       have H1 : (some false) = some r := by rw [if_neg (show ¬ (false = true) by decide)] at H; exact H
       clear H; have H := H1; clear H1
       obtain rfl := Option.some.inj H
       obtain ⟨hcz39_0, hcz39_1, hfz39_0, hfz39_1⟩ := bk2_ BK361.out
       have p363 : 0 ≤ (x3_1 : Int) := dz_
       have q363 : x3_1 < (l0_0.length : Int) := dz_
       obtain ⟨ad363, A363_2, c363_2, e363, hx363_0, hx363_1, hx363_2, hx363_3, hl363_2, hi363_2⟩ := at_T133 HR0_0.out x3_1 p363 q363
       cases e363
       replace hx363_0 := cup_ HB.out hx363_0; replace hx363_1 := cup_ HB.out hx363_1; replace hx363_2 := cup_ HB.out hx363_2; replace hx363_3 := cup_ HB.out hx363_3
       have HR363_2 := zA hi363_2; have HC363_2 := zA hl363_2; clear hi363_2 hl363_2
       replace p363 := eq_true p363
       replace q363 := eq_true q363
       go_wp2_with (first | ((with_reducible refine gate_dst (N := 4) rfl ?_); (try (refine gate_guard (by rfl) ?_; dsimp only)); refine bx_ 4 #[.string (⟨#[]⟩ : ByteArray), .int .i64 0, .slice none 0 0, .bool false] 133 ?_; intro gb364 hg w40 hbox hb; have BK364 := zA (hbox); have GW364 := zA (((zz137 GE361.out) : w.heap.size ≤ gb364)); have GE364 := zA (((zz137 GE361.out) : w.heap.size ≤ gb364)); replace HB := zA (zz138 GE361.out); have NB361_364 := zA (((zz139 BK361.out) : gb361 ≠ gb364)); have NB364_361 := zA (((zz140 BK361.out) : gb364 ≠ gb361)); replace BK361 := zA (zz141 BK361.out); clear hb hbox hg; have hnb41 := NB364_361.out; have hnc41 := NB361_364.out; obtain ⟨hcz42_0, hcz42_1, hcz42_2, hcz42_3, hfz42_0, hfz42_1, hfz42_2, hfz42_3⟩ := bk4_ BK364.out) | ((with_reducible refine gate_store (t := 133) (p := 4) rfl ?_); (try (rw [drewN_self w40]; generalize hq_ : World.drewN w40 _ = w40; replace BK361 := zA (blk_at hq_ BK361.out); replace BK364 := zA (blk_at hq_ BK364.out); replace HB := zA (below_at hq_ HB.out); clear hq_)); refine store_event (t := 133) (p := 4) (v := ?vo_w43) (w1 := ((((w40.setCell ⟨gb364, 0, none⟩ (.string ((rd_T133 l0_0 x3_1).f0))).setCell ⟨gb364, 1, none⟩ (.int .i64 ((rd_T133 l0_0 x3_1).f1))).setCell ⟨gb364, 2, none⟩ (.slice A363_2 ((rd_T133 l0_0 x3_1).f2).length c363_2)).setCell ⟨gb364, 3, none⟩ (.bool ((rd_T133 l0_0 x3_1).f3)))) ?hg ?ho ?hn ?hr ?_; (case ho => rfl); (case hg => rfl); (case hn => rfl); (case hr => exact zz32); intro w43 hw; have n0_ : Aside0 (w43.heap[gb361]? = some (.cells #[.slice (some ad363) l0_0.length c0_0, .slice A0_1 l0_1.length c0_1] 108 (0, 0))) := ⟨(zz142 NB361_364.out BK361.out)⟩; have n1_ : Aside0 (w43.heap[gb364]? = some (.cells #[.string ((rd_T133 l0_0 x3_1).f0), .int .i64 ((rd_T133 l0_0 x3_1).f1), .slice A363_2 ((rd_T133 l0_0 x3_1).f2).length c363_2, .bool ((rd_T133 l0_0 x3_1).f3)] 133 (0, 0))) := ⟨(zz143 BK364.out)⟩; have n2_ : Aside0 (Below w.heap.size w w43) := ⟨(zz144 GE361.out GE364.out)⟩; clear hw; clear BK361; clear BK364; clear HB; have BK361 := n0_; have BK364 := n1_; have HB := n2_; clear n0_ n1_ n2_; obtain ⟨hcz44_0, hcz44_1, hcz44_2, hcz44_3, hfz44_0, hfz44_1, hfz44_2, hfz44_3⟩ := bk4_ BK364.out))
       try (obtain ⟨hcz45_0, hcz45_1, hfz45_0, hfz45_1⟩ := bk2_ BK361.out; have q46 : (x3_1 : Int) ≤ ((l0_0.length : Int) : Int) := dz_; obtain ⟨i046, hi046, _, hsz46, _⟩ := info_parts info133; have hroom46 : l0_0.length ≤ c0_0 := HC0_0.out; have hC46 : Kd.C k133 _ (some ad363) l0_0.length l0_0 := HR0_0.out; have hcut46 := cut_to (P := Try.prog) 105 133 .i64 Try.underlying105 hi046 (some ad363) l0_0.length c0_0 x3_1 (of_decide_eq_true zz3) q46 hroom46; have hr46 := Kd.C_take (m := (x3_1 : Int).toNat) hC46 (by omega); have hy46 : y366.length = (x3_1 : Int).toNat := (zz42 Ny366.out); rw [← Ny366.out] at hr46; rw [← hy46] at hcut46; have HR369 := zA hr46; have HC369 := zA (show y366.length ≤ c0_0 from by omega); clear hr46 hC46 hroom46 hi046 hsz46; have KY46 := zA hy46; clear hy46; replace q46 := eq_true q46)
       repeat (go_quiet (first | (go_at_call 89; (with_reducible refine (spec_validName.calls k1 ((rd_T133 l0_0 x3_1).f0) true _ A5.out).mono ?_); rintro e w' ⟨rfl, ⟨nd, rfl⟩⟩; (try exact dr_)) | (go_at_call 120; (with_reducible refine (spec_fixtureAt.calls k1 _ _ y366 ((rd_T133 l0_0 x3_1).f0) t370 _ ?side1 ?side2 A9.out).mono ?_); (case side1 => exact (zz145 HR369.out GE361.out GE364.out)); (case side2 => exact HC369.out); rintro e w' ⟨rfl, ⟨nd, rfl⟩⟩; (try exact dr_)) | (go_at_call 97; (with_reducible refine (spec_inRange.calls ((rd_T133 l0_0 x3_1).f1) 0 2 false _ A19.out).mono ?_); rintro e w' ⟨rfl, ⟨nd, rfl⟩⟩; (try exact dr_))); try go_wp2_with (fail))
       go_ret
       exact ⟨zz14, (zz146 GE361.out GE364.out)⟩
    ·replace c6 := Bool.eq_false_iff.mpr c6
     subst c6
     have H1 : (some false) = some r := by rw [if_neg (show ¬ (false = true) by decide)] at H; exact H
     clear H; have H := H1; clear H1
     obtain rfl := Option.some.inj H
     obtain ⟨hcz47_0, hcz47_1, hfz47_0, hfz47_1⟩ := bk2_ BK361.out
     have p363 : 0 ≤ (x3_1 : Int) := dz_
     have q363 : x3_1 < (l0_0.length : Int) := dz_
     obtain ⟨ad363, A363_2, c363_2, e363, hx363_0, hx363_1, hx363_2, hx363_3, hl363_2, hi363_2⟩ := at_T133 HR0_0.out x3_1 p363 q363
     cases e363
     replace hx363_0 := cup_ HB.out hx363_0; replace hx363_1 := cup_ HB.out hx363_1; replace hx363_2 := cup_ HB.out hx363_2; replace hx363_3 := cup_ HB.out hx363_3
     have HR363_2 := zA hi363_2; have HC363_2 := zA hl363_2; clear hi363_2 hl363_2
     replace p363 := eq_true p363
     replace q363 := eq_true q363
     go_wp2_with (((with_reducible refine gate_dst (N := 4) rfl ?_); (try (refine gate_guard (by rfl) ?_; dsimp only)); refine bx_ 4 #[.string (⟨#[]⟩ : ByteArray), .int .i64 0, .slice none 0 0, .bool false] 133 ?_; intro gb364 hg w48 hbox hb; have BK364 := zA (hbox); have GW364 := zA (((zz137 GE361.out) : w.heap.size ≤ gb364)); have GE364 := zA (((zz137 GE361.out) : w.heap.size ≤ gb364)); replace HB := zA (zz138 GE361.out); have NB361_364 := zA (((zz139 BK361.out) : gb361 ≠ gb364)); have NB364_361 := zA (((zz140 BK361.out) : gb364 ≠ gb361)); replace BK361 := zA (zz141 BK361.out); clear hb hbox hg; have hnb49 := NB364_361.out; have hnc49 := NB361_364.out; obtain ⟨hcz50_0, hcz50_1, hcz50_2, hcz50_3, hfz50_0, hfz50_1, hfz50_2, hfz50_3⟩ := bk4_ BK364.out))
     repeat (go_quiet ((go_at_call 89; (with_reducible refine (spec_validName.calls k1 ((rd_T133 l0_0 x3_1).f0) false _ A5.out).mono ?_); rintro e w' ⟨rfl, ⟨nd, rfl⟩⟩; (try exact dr_))); try go_wp2_with (fail))
     go_ret
     exact ⟨zz14, (zz146 GE361.out GE364.out)⟩
   ·obtain ⟨t362, A51, H⟩ := bs_ H
    (try dsimp only at H)
    by_cases c52 : t362 = true
    ·subst c52
     have H1 : (some (decide ((l0_0.length : Int) ≤ 6))) = some r := by rw [if_pos rfl] at H; exact H
     clear H; have H := H1; clear H1
     obtain rfl := Option.some.inj H
     obtain ⟨hcz53_0, hcz53_1, hfz53_0, hfz53_1⟩ := bk2_ BK361.out
     go_wp2_with ((go_at_call 123; (with_reducible refine (spec_validTests.calls k1 _ _ l0_1 true _ ?side1 ?side2 A51.out).mono ?_); (case side1 => exact (zz62 HR0_1.out)); (case side2 => exact HC0_1.out); rintro e w54 ⟨rfl, hb⟩; replace BK361 := zA (blk_below (g := gb361) (o := .cells #[.slice A0_0 l0_0.length c0_0, .slice A0_1 l0_1.length c0_1] 108 (0, 0)) (zz6 BK361.out) hb); replace HB := zA (zz138 GE361.out); (try clear hb); obtain ⟨hcz55_0, hcz55_1, hfz55_0, hfz55_1⟩ := bk2_ BK361.out))
     repeat (go_quiet (fail); try go_wp2_with (fail))
     go_ret
     exact ⟨zz14, (zz7 GE361.out)⟩
    ·replace c52 := Bool.eq_false_iff.mpr c52
     subst c52
     have H1 : (some false) = some r := by rw [if_neg (show ¬ (false = true) by decide)] at H; exact H
     clear H; have H := H1; clear H1
     obtain rfl := Option.some.inj H
     obtain ⟨hcz56_0, hcz56_1, hfz56_0, hfz56_1⟩ := bk2_ BK361.out
     go_wp2_with ((go_at_call 123; (with_reducible refine (spec_validTests.calls k1 _ _ l0_1 false _ ?side1 ?side2 A51.out).mono ?_); (case side1 => exact (zz62 HR0_1.out)); (case side2 => exact HC0_1.out); rintro e w57 ⟨rfl, hb⟩; replace BK361 := zA (blk_below (g := gb361) (o := .cells #[.slice A0_0 l0_0.length c0_0, .slice A0_1 l0_1.length c0_1] 108 (0, 0)) (zz6 BK361.out) hb); replace HB := zA (zz138 GE361.out); (try clear hb)))
     repeat (go_quiet (fail); try go_wp2_with (fail))
     go_ret
     exact ⟨zz14, (zz7 GE361.out)⟩

end Go.Proofs.Ytieghkchhjailaa.S
