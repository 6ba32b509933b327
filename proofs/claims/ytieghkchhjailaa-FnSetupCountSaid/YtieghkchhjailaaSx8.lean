-- WRITTEN by wip/ext.py
import Derived.Test.YtieghkchhjailaaSx0
import Derived.Test.YtieghkchhjailaaSx2
import Derived.Test.YtieghkchhjailaaSx4
import Derived.Test.YtieghkchhjailaaSx7
namespace Go.Proofs.Ytieghkchhjailaa.S
open Go.RowKit Go.Proofs.YtieghkchhjailaaW.PrintWords Go.Proofs.YtieghkchhjailaaW.PrintLast Go.Proofs.YtieghkchhjailaaW.PrintMore
attribute [local go_sem] max2_int min2_int max_two min_two max_three min_three max_four min_four   -- for this text's walks alone
set_option linter.unusedVariables false
set_option linter.unusedSimpArgs false

/-! ### spec_validTests: function 123 -/
def spec_validTests.l0 : Nat → List (S137) → Int → Option (Bool)
 | 0, _, _ => none
 | k + 1, x0, x3 => if x3 < (x0.length : Int) then (if 0 ≤ x3 then ((spec_validTest.f k ((rd_T137 x0 x3).f0) ((rd_T137 x0 x3).f1) ((rd_T137 x0 x3).f2) ((rd_T137 x0 x3).f3)).bind fun t353 => (if t353 = true then (if x3 ≤ (x0.length : Int) then ((spec_idOf.f ((rd_T137 x0 x3).f0) ((rd_T137 x0 x3).f1) ((rd_T137 x0 x3).f2) ((rd_T137 x0 x3).f3)).bind fun t359 => ((spec_findTest.f k (x0.take (x3 : Int).toNat) t359).bind fun t360 => (if t360 ≥ 0 then (some false) else (spec_validTests.l0 k x0 (wrap64 (x3 + 1)))))) else (none)) else (some false))) else (none)) else (some (decide ((x0.length : Int) ≤ 10)))
def spec_validTests.f (k : Nat) (l0 : List (S137)) : Option (Bool) := spec_validTests.l0 k l0 0
theorem spec_validTests.mono_l : ∀ k, (∀ y0 y1, LeO (spec_validTests.l0 k y0 y1) (spec_validTests.l0 (k + 1) y0 y1))
 | 0 => fun _ _ r h => by simp [spec_validTests.l0] at h
 | k + 1 => by
  have ih0 := spec_validTests.mono_l k
  ·intro y0 y1
   unfold spec_validTests.l0
   repeat' first | (with_reducible first | exact ih0 _ _ | exact spec_findTest.mono _ _ _ | exact spec_validTest.mono _ _ _ _ _ | exact le1_ | exact le2_ | apply LeO.ite | refine LeO.bind ?_ fun _ => ?_) | apply LeO.ite | refine LeO.bind ?_ fun _ => ?_
theorem spec_validTests.mono : ∀ a0 k, LeO (spec_validTests.f k a0) (spec_validTests.f (k + 1) a0) := by
 intro a0 k
 have ih0 := spec_validTests.mono_l k
 unfold spec_validTests.f
 repeat' first | (with_reducible first | exact ih0 _ _ | exact spec_findTest.mono _ _ _ | exact spec_validTest.mono _ _ _ _ _ | exact le1_ | exact le2_ | apply LeO.ite | refine LeO.bind ?_ fun _ => ?_) | apply LeO.ite | refine LeO.bind ?_ fun _ => ?_
def spec_validTests.T4 : Bool × List (List Nat × List Nat) := (true, [([], []), ([], []), ([0, 1], [0, 1]), ([2], [2]), ([3], [3]), ([4], [4]), ([5, 4], [5]), ([6], [6]), ([6], [6]), ([7, 8, 6], [6, 7, 8]), ([6], [6]), ([6], [6]), ([10, 11, 6], [6, 10, 11]), ([12, 6], [6, 12]), ([13, 6, 6], [6, 13]), ([9, 14, 14, 6], [6, 9, 14]), ([15, 6], [6, 15]), ([6, 16], [6, 16])])
def spec_validTests.B4 : List Nat := [0, 0, 3, 7, 15, 31, 63, 127, 127, 511, 127, 127, 3199, 7295, 15487, 32767, 65535, 131071]
theorem spec_validTests.tab4 : rtab .any (opsOf Try.f123 4) = spec_validTests.T4 := by kernel_rfl
theorem spec_validTests.bits4 : waitsOk spec_validTests.T4.2 spec_validTests.B4 = true := by kernel_rfl
set_option maxHeartbeats 8000000 in
set_option maxRecDepth 100000 in
theorem spec_validTests.calls (k : Nat) (A0 : Option Addr) (c0 : Nat) (l0 : List (S137)) (r : Bool) (w : World) (hr0 : Kd.C k137 w A0 l0.length l0) (hc0 : l0.length ≤ c0) (h : spec_validTests.f k l0 = some r) :
  Calls Try.prog 123 #[.slice A0 l0.length c0] w fun e w' => e = .returned (.bool r) ∧ Below w.heap.size w w' := by
 have hu137 := Try.underlying137; have HR0 := zA hr0; have HC0 := zA hc0; clear hr0 hc0; have HB := zA zz2
 have H : (spec_validTests.l0 k l0 0) = some r := h
 clear h; have H' := zA H; clear H
 go_enter Try.func123, Try.ntmps123
 go_wp2
 go_loopg [3] k (fun kq v3 w' => ∃ (x3_1 : Int), v3 = .int .i64 x3_1 ∧ Aside0 (spec_validTests.l0 kq l0 x3_1 = some r) ∧ Aside0 (kq ≤ k) ∧ Aside0 (Below w.heap.size w w'))
 case atStart => exact ⟨(0), zz9, H', ⟨Nat.le_refl _⟩, ⟨zz23⟩⟩
 case round =>
  clear H'; try clear c1
  obtain ⟨x3_1, rfl, HA, HK1, HB⟩ := hrel
  cases gk with
  | zero => exact absurd HA.out (by simp [spec_validTests.l0])
  | succ k1 =>
   have H := HA.out; clear HA
   simp only [spec_validTests.l0] at H
   rcases iu_ H with ⟨c2b0, H⟩ | ⟨c2b0, H⟩
   ·obtain ⟨c3b0, H⟩ := it_ H
    obtain ⟨t353, A4, H⟩ := bs_ H
    (try dsimp only at H)
    by_cases c5 : t353 = true
    ·subst c5
     have H1 : (if x3_1 ≤ (l0.length : Int) then ((spec_idOf.f ((rd_T137 l0 x3_1).f0) ((rd_T137 l0 x3_1).f1) ((rd_T137 l0 x3_1).f2) ((rd_T137 l0 x3_1).f3)).bind fun t359 => ((spec_findTest.f k1 (l0.take (x3_1 : Int).toNat) t359).bind fun t360 => (if t360 ≥ 0 then (some false) else (spec_validTests.l0 k1 l0 (wrap64 (x3_1 + 1)))))) else (none)) = some r := by rw [if_pos rfl] at H; exact H
     clear H; have H := H1; clear H1; have c6b0 := eq_true (of_decide_eq_true zz3 : 0 ≤ x3_1)
     obtain ⟨c7, H⟩ := in_ H
     have c7b0 := eq_true c7
     have c7b1 : decide (x3_1 ≤ (l0.length : Int)) = true := decide_eq_true c7
     clear c7
     obtain ⟨y354, hy354⟩ : ∃ y_ : List (S137), y_ = (l0.take (x3_1 : Int).toNat) := ⟨_, rfl⟩
     replace H : ((spec_idOf.f ((rd_T137 l0 x3_1).f0) ((rd_T137 l0 x3_1).f1) ((rd_T137 l0 x3_1).f2) ((rd_T137 l0 x3_1).f3)).bind fun t359 => ((spec_findTest.f k1 y354 t359).bind fun t360 => (if t360 ≥ 0 then (some false) else (spec_validTests.l0 k1 l0 (wrap64 (x3_1 + 1)))))) = some r := (zz24 hy354)
     have Ny354 := zA hy354; clear hy354
     obtain ⟨t359, A8, H⟩ := bs_ H
     (try dsimp only at H)
     obtain ⟨t360, A9, H⟩ := bs_ H
     (try dsimp only at H)
     rcases ie_ H with ⟨c10, H⟩ | ⟨c10, H⟩
     ·have c10b0 : decide (0 ≤ t360) = true := decide_eq_true c10
      clear c10
      obtain rfl := Option.some.inj H
      try go_wp2; replace HB := zA zz40
      have p352 : 0 ≤ (x3_1 : Int) := dz_
      have q352 : x3_1 < (l0.length : Int) := dz_
      obtain ⟨ad352, A352_2, c352_2, A352_3, c352_3, e352, hx352_0, hx352_1, hx352_2, hx352_3, hl352_2, hi352_2, hl352_3, hi352_3⟩ := at_T137 HR0.out x3_1 p352 q352
      have hw352_3 := hx352_3; have hw352_2 := hx352_2; have hw352_1 := hx352_1; have hw352_0 := hx352_0
      cases e352
      replace hx352_0 := cup_ HB.out hx352_0; replace hx352_1 := cup_ HB.out hx352_1; replace hx352_2 := cup_ HB.out hx352_2; replace hx352_3 := cup_ HB.out hx352_3
      have HR352_2 := zA hi352_2; have HC352_2 := zA hl352_2; clear hi352_2 hl352_2; have HR352_3 := zA hi352_3; have HC352_3 := zA hl352_3; clear hi352_3 hl352_3
      replace p352 := eq_true p352
      replace q352 := eq_true q352
      have p358 : 0 ≤ (x3_1 : Int) := dz_
      have q358 : x3_1 < (l0.length : Int) := dz_
      obtain ⟨ad358, A358_2, c358_2, A358_3, c358_3, e358, hx358_0, hx358_1, hx358_2, hx358_3, hl358_2, hi358_2, hl358_3, hi358_3⟩ := at_T137 HR0.out x3_1 p358 q358
      have hw358_3 := hx358_3; have hw358_2 := hx358_2; have hw358_1 := hx358_1; have hw358_0 := hx358_0
      obtain rfl : ad352 = ad358 := (by injection e358)
      obtain ⟨rfl, rfl⟩ : A352_2 = A358_2 ∧ c352_2 = c358_2 := by
       have e_ := Option.some.inj (hw352_2.symm.trans hx358_2)
       injection e_ with e1_ _ e2_
       exact ⟨e1_, e2_⟩
      obtain ⟨rfl, rfl⟩ : A352_3 = A358_3 ∧ c352_3 = c358_3 := by
       have e_ := Option.some.inj (hw352_3.symm.trans hx358_3)
       injection e_ with e1_ _ e2_
       exact ⟨e1_, e2_⟩
      replace hx358_0 := cup_ HB.out hx358_0; replace hx358_1 := cup_ HB.out hx358_1; replace hx358_2 := cup_ HB.out hx358_2; replace hx358_3 := cup_ HB.out hx358_3
      have HR358_2 := zA hi358_2; have HC358_2 := zA hl358_2; clear hi358_2 hl358_2; have HR358_3 := zA hi358_3; have HC358_3 := zA hl358_3; clear hi358_3 hl358_3
      replace p358 := eq_true p358
      replace q358 := eq_true q358
      refine start_ (n := 18) (S := fun w' => w'.cell? (ad352.add ((x3_1).toNat * 4)) = some (.string ((rd_T137 l0 x3_1).f0)) ∧ w'.cell? ⟨(ad352.add ((x3_1).toNat * 4)).block, (ad352.add ((x3_1).toNat * 4)).off + 1, none⟩ = some (.string ((rd_T137 l0 x3_1).f1)) ∧ w'.cell? ⟨(ad352.add ((x3_1).toNat * 4)).block, (ad352.add ((x3_1).toNat * 4)).off + 2, none⟩ = some (.slice A352_2 ((rd_T137 l0 x3_1).f2).length c352_2) ∧ w'.cell? ⟨(ad352.add ((x3_1).toNat * 4)).block, (ad352.add ((x3_1).toNat * 4)).off + 3, none⟩ = some (.slice A352_3 ((rd_T137 l0 x3_1).f3).length c352_3) ∧ w'.cell? (ad352.add ((x3_1).toNat * 4)) = some (.string ((rd_T137 l0 x3_1).f0)) ∧ w'.cell? ⟨(ad352.add ((x3_1).toNat * 4)).block, (ad352.add ((x3_1).toNat * 4)).off + 1, none⟩ = some (.string ((rd_T137 l0 x3_1).f1)) ∧ w'.cell? ⟨(ad352.add ((x3_1).toNat * 4)).block, (ad352.add ((x3_1).toNat * 4)).off + 2, none⟩ = some (.slice A352_2 ((rd_T137 l0 x3_1).f2).length c352_2) ∧ w'.cell? ⟨(ad352.add ((x3_1).toNat * 4)).block, (ad352.add ((x3_1).toNat * 4)).off + 3, none⟩ = some (.slice A352_3 ((rd_T137 l0 x3_1).f3).length c352_3)) (ds := []) #[ff,ff,ff,ff,ff,ff,ff,ff,ff,ff,ff,ff,ff,ff,ff,ff,ff,ff] (by kernel_rfl) rfl rfl ⟨(cv_ HB.out hw352_0), (cv_ HB.out hw352_1), (cv_ HB.out hw352_2), (cv_ HB.out hw352_3), (cv_ HB.out hw358_0), (cv_ HB.out hw358_1), (cv_ HB.out hw358_2), (cv_ HB.out hw358_3)⟩ (fun hHeld => ?_); refine with_tabW spec_validTests.tab4 spec_validTests.bits4 (fun HT_ HW_ => ?_)
      generalize wr.drew = w11 at HB HR352_2 HR352_3 HR358_2 HR358_3 hx352_0 hx352_1 hx352_2 hx352_3 hx358_0 hx358_1 hx358_2 hx358_3 hHeld ⊢
      refine qp_ 0 10 ?_
      refine qp_ 1 11 ?_
      refine qp_ 2 12 ?_
      refine qt_ 3 13 ?_
      refine qo_ 4 14 (fun K hK => ?_)
      refine goes_ Try.func130 (by kernel_rfl) rfl #[.agg #[.string ((rd_T137 l0 x3_1).f0), .string ((rd_T137 l0 x3_1).f1), .slice A352_2 ((rd_T137 l0 x3_1).f2).length c352_2, .slice A352_3 ((rd_T137 l0 x3_1).f3).length c352_3]] (by rfl) rfl rfl zz17 ?_
      with_reducible refine (spec_validTest.calls k1 ((rd_T137 l0 x3_1).f0) ((rd_T137 l0 x3_1).f1) _ _ ((rd_T137 l0 x3_1).f2) _ _ ((rd_T137 l0 x3_1).f3) true _ ?side1 ?side2 ?side3 ?side4 A4.out).mono ?_
      (case side1 => exact (zz62 HR352_2.out))
      (case side2 => exact HC352_2.out)
      (case side3 => exact (zz62 HR352_3.out))
      (case side4 => exact HC352_3.out)
      rintro e w12 ⟨rfl, hb⟩
      refine ⟨_, rfl, ?_⟩
      replace HB := zA zz4
      (try clear hb)
      (try clear hb2)
      (try clear hk)
      (try clear hi)
      have q13 : (x3_1 : Int) ≤ ((l0.length : Int) : Int) := dz_
      obtain ⟨i013, hi013, _, hsz13, _⟩ := info_parts info137
      have hroom13 : l0.length ≤ c0 := HC0.out
      have hC13 : Kd.C k137 _ (some ad352) l0.length l0 := HR0.out
      have hcut13 := cut_to (P := Try.prog) 106 137 .i64 Try.underlying106 hi013 (some ad352) l0.length c0 x3_1 (of_decide_eq_true zz3) q13 hroom13; have hr13 := Kd.C_take (m := (x3_1 : Int).toNat) hC13 (by omega)
      have hy13 : y354.length = (x3_1 : Int).toNat := (zz42 Ny354.out)
      rw [← Ny354.out] at hr13
      rw [← hy13] at hcut13
      have HR357 := zA hr13
      have HC357 := zA (show y354.length ≤ c0 from by omega)
      clear hr13 hC13 hroom13 hi013 hsz13; have KY13 := zA hy13; clear hy13
      replace q13 := eq_true q13
      refine hK.out _ _ ⟨(cv_ HB.out hw352_0), (cv_ HB.out hw352_1), (cv_ HB.out hw352_2), (cv_ HB.out hw352_3), (cv_ HB.out hw358_0), (cv_ HB.out hw358_1), (cv_ HB.out hw358_2), (cv_ HB.out hw358_3)⟩ (fun hHeld => ?_)
      clear hK K
      refine qn_ 14 ?_
      refine qp_ 5 15 ?_
      refine qp_ 6 16 ?_
      refine qp_ 7 17 ?_
      refine qp_ 8 18 ?_
      refine qp_ 9 19 ?_
      refine qp_ 10 20 ?_
      refine qp_ 11 21 ?_
      refine qp_ 12 22 ?_
      refine qt_ 13 23 ?_
      refine qo_ 14 24 (fun K hK => ?_)
      refine goes_ Try.func114 (by kernel_rfl) rfl #[.agg #[.string ((rd_T137 l0 x3_1).f0), .string ((rd_T137 l0 x3_1).f1), .slice A352_2 ((rd_T137 l0 x3_1).f2).length c352_2, .slice A352_3 ((rd_T137 l0 x3_1).f3).length c352_3]] (by rfl) rfl rfl zz17 ?_
      with_reducible refine (spec_idOf.calls ((rd_T137 l0 x3_1).f0) ((rd_T137 l0 x3_1).f1) _ _ ((rd_T137 l0 x3_1).f2) _ _ ((rd_T137 l0 x3_1).f3) t359 _ ?side1 ?side2 ?side3 ?side4 A8.out).mono ?_
      (case side1 => exact (zz62 HR358_2.out))
      (case side2 => exact HC358_2.out)
      (case side3 => exact (zz62 HR358_3.out))
      (case side4 => exact HC358_3.out)
      rintro e w14 ⟨rfl, hb⟩
      refine ⟨_, rfl, ?_⟩
      replace HB := zA zz4
      (try clear hb)
      (try clear hb2)
      (try clear hk)
      (try clear hi)
      refine hK.out _ _ ⟨(cv_ HB.out hw352_0), (cv_ HB.out hw352_1), (cv_ HB.out hw352_2), (cv_ HB.out hw352_3), (cv_ HB.out hw358_0), (cv_ HB.out hw358_1), (cv_ HB.out hw358_2), (cv_ HB.out hw358_3)⟩ (fun hHeld => ?_)
      clear hK K
      refine qn_ 24 ?_
      refine qo_ 15 25 (fun K hK => ?_)
      refine goes_ Try.func129 (by kernel_rfl) rfl #[.slice (some ad352) y354.length c0, .string t359] (by rfl) rfl rfl zz17 ?_
      with_reducible refine (spec_findTest.calls k1 _ _ y354 t359 t360 _ ?side1 ?side2 A9.out).mono ?_
      (case side1 => exact (zz62 HR357.out))
      (case side2 => exact HC357.out)
      rintro e w15 ⟨rfl, hb⟩
      refine ⟨_, rfl, ?_⟩
      replace HB := zA zz4
      (try clear hb)
      (try clear hb2)
      (try clear hk)
      (try clear hi)
      refine hK.out _ _ ⟨(cv_ HB.out hw352_0), (cv_ HB.out hw352_1), (cv_ HB.out hw352_2), (cv_ HB.out hw352_3), (cv_ HB.out hw358_0), (cv_ HB.out hw358_1), (cv_ HB.out hw358_2), (cv_ HB.out hw358_3)⟩ (fun hHeld => ?_)
      clear hK K
      refine qn_ 25 ?_
      refine qp_ 16 26 ?_
      refine qp_ 17 27 ?_
      refine qd_ ?_
      try go_wp2
      go_ret
      exact ⟨zz14, zz23⟩
     ·have c10b0 : decide (0 ≤ t360) = false := decide_eq_false c10
      clear c10; have H' := zA H; clear H; try go_wp2; replace HB := zA zz40
      have p352 : 0 ≤ (x3_1 : Int) := dz_
      have q352 : x3_1 < (l0.length : Int) := dz_
      obtain ⟨ad352, A352_2, c352_2, A352_3, c352_3, e352, hx352_0, hx352_1, hx352_2, hx352_3, hl352_2, hi352_2, hl352_3, hi352_3⟩ := at_T137 HR0.out x3_1 p352 q352
      have hw352_3 := hx352_3; have hw352_2 := hx352_2; have hw352_1 := hx352_1; have hw352_0 := hx352_0
      cases e352
      replace hx352_0 := cup_ HB.out hx352_0; replace hx352_1 := cup_ HB.out hx352_1; replace hx352_2 := cup_ HB.out hx352_2; replace hx352_3 := cup_ HB.out hx352_3
      have HR352_2 := zA hi352_2; have HC352_2 := zA hl352_2; clear hi352_2 hl352_2; have HR352_3 := zA hi352_3; have HC352_3 := zA hl352_3; clear hi352_3 hl352_3
      replace p352 := eq_true p352
      replace q352 := eq_true q352
      have p358 : 0 ≤ (x3_1 : Int) := dz_
      have q358 : x3_1 < (l0.length : Int) := dz_
      obtain ⟨ad358, A358_2, c358_2, A358_3, c358_3, e358, hx358_0, hx358_1, hx358_2, hx358_3, hl358_2, hi358_2, hl358_3, hi358_3⟩ := at_T137 HR0.out x3_1 p358 q358
      have hw358_3 := hx358_3; have hw358_2 := hx358_2; have hw358_1 := hx358_1; have hw358_0 := hx358_0
      obtain rfl : ad352 = ad358 := (by injection e358)
      obtain ⟨rfl, rfl⟩ : A352_2 = A358_2 ∧ c352_2 = c358_2 := by
       have e_ := Option.some.inj (hw352_2.symm.trans hx358_2)
       injection e_ with e1_ _ e2_
       exact ⟨e1_, e2_⟩
      obtain ⟨rfl, rfl⟩ : A352_3 = A358_3 ∧ c352_3 = c358_3 := by
       have e_ := Option.some.inj (hw352_3.symm.trans hx358_3)
       injection e_ with e1_ _ e2_
       exact ⟨e1_, e2_⟩
      replace hx358_0 := cup_ HB.out hx358_0; replace hx358_1 := cup_ HB.out hx358_1; replace hx358_2 := cup_ HB.out hx358_2; replace hx358_3 := cup_ HB.out hx358_3
      have HR358_2 := zA hi358_2; have HC358_2 := zA hl358_2; clear hi358_2 hl358_2; have HR358_3 := zA hi358_3; have HC358_3 := zA hl358_3; clear hi358_3 hl358_3
      replace p358 := eq_true p358
      replace q358 := eq_true q358
      refine start_ (n := 18) (S := fun w' => w'.cell? (ad352.add ((x3_1).toNat * 4)) = some (.string ((rd_T137 l0 x3_1).f0)) ∧ w'.cell? ⟨(ad352.add ((x3_1).toNat * 4)).block, (ad352.add ((x3_1).toNat * 4)).off + 1, none⟩ = some (.string ((rd_T137 l0 x3_1).f1)) ∧ w'.cell? ⟨(ad352.add ((x3_1).toNat * 4)).block, (ad352.add ((x3_1).toNat * 4)).off + 2, none⟩ = some (.slice A352_2 ((rd_T137 l0 x3_1).f2).length c352_2) ∧ w'.cell? ⟨(ad352.add ((x3_1).toNat * 4)).block, (ad352.add ((x3_1).toNat * 4)).off + 3, none⟩ = some (.slice A352_3 ((rd_T137 l0 x3_1).f3).length c352_3) ∧ w'.cell? (ad352.add ((x3_1).toNat * 4)) = some (.string ((rd_T137 l0 x3_1).f0)) ∧ w'.cell? ⟨(ad352.add ((x3_1).toNat * 4)).block, (ad352.add ((x3_1).toNat * 4)).off + 1, none⟩ = some (.string ((rd_T137 l0 x3_1).f1)) ∧ w'.cell? ⟨(ad352.add ((x3_1).toNat * 4)).block, (ad352.add ((x3_1).toNat * 4)).off + 2, none⟩ = some (.slice A352_2 ((rd_T137 l0 x3_1).f2).length c352_2) ∧ w'.cell? ⟨(ad352.add ((x3_1).toNat * 4)).block, (ad352.add ((x3_1).toNat * 4)).off + 3, none⟩ = some (.slice A352_3 ((rd_T137 l0 x3_1).f3).length c352_3)) (ds := []) #[ff,ff,ff,ff,ff,ff,ff,ff,ff,ff,ff,ff,ff,ff,ff,ff,ff,ff] (by kernel_rfl) rfl rfl ⟨(cv_ HB.out hw352_0), (cv_ HB.out hw352_1), (cv_ HB.out hw352_2), (cv_ HB.out hw352_3), (cv_ HB.out hw358_0), (cv_ HB.out hw358_1), (cv_ HB.out hw358_2), (cv_ HB.out hw358_3)⟩ (fun hHeld => ?_); refine with_tabW spec_validTests.tab4 spec_validTests.bits4 (fun HT_ HW_ => ?_)
      generalize wr.drew = w16 at HB HR352_2 HR352_3 HR358_2 HR358_3 hx352_0 hx352_1 hx352_2 hx352_3 hx358_0 hx358_1 hx358_2 hx358_3 hHeld ⊢
      refine qp_ 0 10 ?_
      refine qp_ 1 11 ?_
      refine qp_ 2 12 ?_
      refine qt_ 3 13 ?_
      refine qo_ 4 14 (fun K hK => ?_)
      refine goes_ Try.func130 (by kernel_rfl) rfl #[.agg #[.string ((rd_T137 l0 x3_1).f0), .string ((rd_T137 l0 x3_1).f1), .slice A352_2 ((rd_T137 l0 x3_1).f2).length c352_2, .slice A352_3 ((rd_T137 l0 x3_1).f3).length c352_3]] (by rfl) rfl rfl zz17 ?_
      with_reducible refine (spec_validTest.calls k1 ((rd_T137 l0 x3_1).f0) ((rd_T137 l0 x3_1).f1) _ _ ((rd_T137 l0 x3_1).f2) _ _ ((rd_T137 l0 x3_1).f3) true _ ?side1 ?side2 ?side3 ?side4 A4.out).mono ?_
      (case side1 => exact (zz62 HR352_2.out))
      (case side2 => exact HC352_2.out)
      (case side3 => exact (zz62 HR352_3.out))
      (case side4 => exact HC352_3.out)
      rintro e w17 ⟨rfl, hb⟩
      refine ⟨_, rfl, ?_⟩
      replace HB := zA zz4
      (try clear hb)
      (try clear hb2)
      (try clear hk)
      (try clear hi)
      have q18 : (x3_1 : Int) ≤ ((l0.length : Int) : Int) := dz_
      obtain ⟨i018, hi018, _, hsz18, _⟩ := info_parts info137
      have hroom18 : l0.length ≤ c0 := HC0.out
      have hC18 : Kd.C k137 _ (some ad352) l0.length l0 := HR0.out
      have hcut18 := cut_to (P := Try.prog) 106 137 .i64 Try.underlying106 hi018 (some ad352) l0.length c0 x3_1 (of_decide_eq_true zz3) q18 hroom18; have hr18 := Kd.C_take (m := (x3_1 : Int).toNat) hC18 (by omega)
      have hy18 : y354.length = (x3_1 : Int).toNat := (zz42 Ny354.out)
      rw [← Ny354.out] at hr18
      rw [← hy18] at hcut18
      have HR357 := zA hr18
      have HC357 := zA (show y354.length ≤ c0 from by omega)
      clear hr18 hC18 hroom18 hi018 hsz18; have KY18 := zA hy18; clear hy18
      replace q18 := eq_true q18
      refine hK.out _ _ ⟨(cv_ HB.out hw352_0), (cv_ HB.out hw352_1), (cv_ HB.out hw352_2), (cv_ HB.out hw352_3), (cv_ HB.out hw358_0), (cv_ HB.out hw358_1), (cv_ HB.out hw358_2), (cv_ HB.out hw358_3)⟩ (fun hHeld => ?_)
      clear hK K
      refine qn_ 14 ?_
      refine qp_ 5 15 ?_
      refine qp_ 6 16 ?_
      refine qp_ 7 17 ?_
      refine qp_ 8 18 ?_
      refine qp_ 9 19 ?_
      refine qp_ 10 20 ?_
      refine qp_ 11 21 ?_
      refine qp_ 12 22 ?_
      refine qt_ 13 23 ?_
      refine qo_ 14 24 (fun K hK => ?_)
      refine goes_ Try.func114 (by kernel_rfl) rfl #[.agg #[.string ((rd_T137 l0 x3_1).f0), .string ((rd_T137 l0 x3_1).f1), .slice A352_2 ((rd_T137 l0 x3_1).f2).length c352_2, .slice A352_3 ((rd_T137 l0 x3_1).f3).length c352_3]] (by rfl) rfl rfl zz17 ?_
      with_reducible refine (spec_idOf.calls ((rd_T137 l0 x3_1).f0) ((rd_T137 l0 x3_1).f1) _ _ ((rd_T137 l0 x3_1).f2) _ _ ((rd_T137 l0 x3_1).f3) t359 _ ?side1 ?side2 ?side3 ?side4 A8.out).mono ?_
      (case side1 => exact (zz62 HR358_2.out))
      (case side2 => exact HC358_2.out)
      (case side3 => exact (zz62 HR358_3.out))
      (case side4 => exact HC358_3.out)
      rintro e w19 ⟨rfl, hb⟩
      refine ⟨_, rfl, ?_⟩
      replace HB := zA zz4
      (try clear hb)
      (try clear hb2)
      (try clear hk)
      (try clear hi)
      refine hK.out _ _ ⟨(cv_ HB.out hw352_0), (cv_ HB.out hw352_1), (cv_ HB.out hw352_2), (cv_ HB.out hw352_3), (cv_ HB.out hw358_0), (cv_ HB.out hw358_1), (cv_ HB.out hw358_2), (cv_ HB.out hw358_3)⟩ (fun hHeld => ?_)
      clear hK K
      refine qn_ 24 ?_
      refine qo_ 15 25 (fun K hK => ?_)
      refine goes_ Try.func129 (by kernel_rfl) rfl #[.slice (some ad352) y354.length c0, .string t359] (by rfl) rfl rfl zz17 ?_
      with_reducible refine (spec_findTest.calls k1 _ _ y354 t359 t360 _ ?side1 ?side2 A9.out).mono ?_
      (case side1 => exact (zz62 HR357.out))
      (case side2 => exact HC357.out)
      rintro e w20 ⟨rfl, hb⟩
      refine ⟨_, rfl, ?_⟩
      replace HB := zA zz4
      (try clear hb)
      (try clear hb2)
      (try clear hk)
      (try clear hi)
      refine hK.out _ _ ⟨(cv_ HB.out hw352_0), (cv_ HB.out hw352_1), (cv_ HB.out hw352_2), (cv_ HB.out hw352_3), (cv_ HB.out hw358_0), (cv_ HB.out hw358_1), (cv_ HB.out hw358_2), (cv_ HB.out hw358_3)⟩ (fun hHeld => ?_)
      clear hK K
      refine qn_ 25 ?_
      refine qp_ 16 26 ?_
      refine qp_ 17 27 ?_
      refine qd_ ?_
      try go_wp2
      go_roundg k1
      case measure => have := HK1.out; omega
      case rel => exact ⟨(wrap64 (x3_1 + 1)), zz9, H', ⟨by have := HK1.out; omega⟩, ⟨zz23⟩⟩
    ·replace c5 := Bool.eq_false_iff.mpr c5
     subst c5
     have H1 : (some false) = some r := by rw [if_neg (show ¬ (false = true) by decide)] at H; exact H
     clear H; have H := H1; clear H1
     obtain rfl := Option.some.inj H
     try go_wp2; replace HB := zA zz40
     have p352 : 0 ≤ (x3_1 : Int) := dz_
     have q352 : x3_1 < (l0.length : Int) := dz_
     obtain ⟨ad352, A352_2, c352_2, A352_3, c352_3, e352, hx352_0, hx352_1, hx352_2, hx352_3, hl352_2, hi352_2, hl352_3, hi352_3⟩ := at_T137 HR0.out x3_1 p352 q352
     have hw352_3 := hx352_3; have hw352_2 := hx352_2; have hw352_1 := hx352_1; have hw352_0 := hx352_0
     cases e352
     replace hx352_0 := cup_ HB.out hx352_0; replace hx352_1 := cup_ HB.out hx352_1; replace hx352_2 := cup_ HB.out hx352_2; replace hx352_3 := cup_ HB.out hx352_3
     have HR352_2 := zA hi352_2; have HC352_2 := zA hl352_2; clear hi352_2 hl352_2; have HR352_3 := zA hi352_3; have HC352_3 := zA hl352_3; clear hi352_3 hl352_3
     replace p352 := eq_true p352
     replace q352 := eq_true q352
     refine start_ (n := 18) (S := fun w' => w'.cell? (ad352.add ((x3_1).toNat * 4)) = some (.string ((rd_T137 l0 x3_1).f0)) ∧ w'.cell? ⟨(ad352.add ((x3_1).toNat * 4)).block, (ad352.add ((x3_1).toNat * 4)).off + 1, none⟩ = some (.string ((rd_T137 l0 x3_1).f1)) ∧ w'.cell? ⟨(ad352.add ((x3_1).toNat * 4)).block, (ad352.add ((x3_1).toNat * 4)).off + 2, none⟩ = some (.slice A352_2 ((rd_T137 l0 x3_1).f2).length c352_2) ∧ w'.cell? ⟨(ad352.add ((x3_1).toNat * 4)).block, (ad352.add ((x3_1).toNat * 4)).off + 3, none⟩ = some (.slice A352_3 ((rd_T137 l0 x3_1).f3).length c352_3)) (ds := []) #[ff,ff,ff,ff,ff,ff,ff,ff,ff,ff,ff,ff,ff,ff,ff,ff,ff,ff] (by kernel_rfl) rfl rfl ⟨(cv_ HB.out hw352_0), (cv_ HB.out hw352_1), (cv_ HB.out hw352_2), (cv_ HB.out hw352_3)⟩ (fun hHeld => ?_); refine with_tabW spec_validTests.tab4 spec_validTests.bits4 (fun HT_ HW_ => ?_)
     generalize wr.drew = w21 at HB HR352_2 HR352_3 hx352_0 hx352_1 hx352_2 hx352_3 hHeld ⊢
     refine qp_ 0 10 ?_
     refine qp_ 1 11 ?_
     refine qp_ 2 12 ?_
     refine qt_ 3 13 ?_
     refine qo_ 4 14 (fun K hK => ?_)
     refine goes_ Try.func130 (by kernel_rfl) rfl #[.agg #[.string ((rd_T137 l0 x3_1).f0), .string ((rd_T137 l0 x3_1).f1), .slice A352_2 ((rd_T137 l0 x3_1).f2).length c352_2, .slice A352_3 ((rd_T137 l0 x3_1).f3).length c352_3]] (by rfl) rfl rfl zz17 ?_
     with_reducible refine (spec_validTest.calls k1 ((rd_T137 l0 x3_1).f0) ((rd_T137 l0 x3_1).f1) _ _ ((rd_T137 l0 x3_1).f2) _ _ ((rd_T137 l0 x3_1).f3) false _ ?side1 ?side2 ?side3 ?side4 A4.out).mono ?_
     (case side1 => exact (zz62 HR352_2.out))
     (case side2 => exact HC352_2.out)
     (case side3 => exact (zz62 HR352_3.out))
     (case side4 => exact HC352_3.out)
     rintro e w22 ⟨rfl, hb⟩
     refine ⟨_, rfl, ?_⟩
     replace HB := zA zz4
     (try clear hb)
     (try clear hb2)
     (try clear hk)
     (try clear hi)
     refine hK.out _ _ ⟨(cv_ HB.out hw352_0), (cv_ HB.out hw352_1), (cv_ HB.out hw352_2), (cv_ HB.out hw352_3)⟩ (fun hHeld => ?_)
     clear hK K
     refine qn_ 14 ?_
     refine qp_ 5 15 ?_
     refine qp_ 6 16 ?_
     refine qu_ 7 17 ?_
     refine qu_ 8 18 ?_
     refine qu_ 9 19 ?_
     refine qu_ 10 20 ?_
     refine qu_ 11 21 ?_
     refine qu_ 12 22 ?_
     refine qu_ 13 23 ?_
     refine qu_ 14 24 ?_
     refine qu_ 15 25 ?_
     refine qu_ 16 26 ?_
     refine qp_ 17 27 ?_
     refine qd_ ?_
     try go_wp2
     go_ret
     exact ⟨zz14, zz23⟩
   ·obtain rfl := Option.some.inj H
    go_wp2
    go_ret
    exact ⟨zz14, zz23⟩

end Go.Proofs.Ytieghkchhjailaa.S
