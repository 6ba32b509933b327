-- WRITTEN by wip/ext.py
import Derived.Test.YtieghkchhjailaaSx0
import Derived.Test.YtieghkchhjailaaSx20
namespace Go.Proofs.Ytieghkchhjailaa.S
open Go.RowKit Go.Proofs.YtieghkchhjailaaW.PrintWords Go.Proofs.YtieghkchhjailaaW.PrintLast Go.Proofs.YtieghkchhjailaaW.PrintMore
attribute [local go_sem] max2_int min2_int max_two min_two max_three min_three max_four min_four   -- for this text's walks alone
set_option linter.unusedVariables false
set_option linter.unusedSimpArgs false

/-! ### laws_FnTestsRun: function 10 -/
def laws_FnTestsRun.f (k : Nat) (l0 : List Int) : Option (Bool) := if (l0.length : Int) > 1048576 then (some true) else ((spec_DrawTestsRun.f k l0).bind fun t685 => ((impl_TestsRun.f k t685).bind fun t688 => ((spec_TestsRun.f k t685).bind fun t691 => ((laws_equalTexts.f k t688 t691).bind fun t694 => (if t694 = true then ((some (([] : List ByteArray) : List ByteArray)).bind fun y695 => (if 0 ≤ (wrap64 ((t685.length : Int) / 2)) then (if (wrap64 ((t685.length : Int) / 2)) ≤ (t685.length : Int) then ((impl_TestsRun.f k (t685.take ((wrap64 ((t685.length : Int) / 2)) : Int).toNat)).bind fun t702 => (if y695.length + t702.length < 8796093022208 then ((some (y695 ++ t702 : List ByteArray)).bind fun y705 => ((impl_TestsRun.f k (t685.drop ((wrap64 ((t685.length : Int) / 2)) : Int).toNat)).bind fun t712 => (if y705.length + t712.length < 8796093022208 then ((laws_equalTexts.f k (y705 ++ t712) t688).bind fun t718 => (some t718)) else (none)))) else (none))) else (none)) else (none))) else ((spec_TestsRun.f k t685).bind fun t719 => ((laws_equalTexts.f k t688 t719).bind fun t722 => (some t722))))))))
theorem laws_FnTestsRun.mono : ∀ a0 k, LeO (laws_FnTestsRun.f k a0) (laws_FnTestsRun.f (k + 1) a0) := by
 intro a0 k
 unfold laws_FnTestsRun.f
 repeat' first | (with_reducible first | exact impl_TestsRun.mono _ _ | exact laws_equalTexts.mono _ _ _ | exact spec_DrawTestsRun.mono _ _ | exact spec_TestsRun.mono _ _ | exact le1_ | exact le2_ | apply LeO.ite | refine LeO.bind ?_ fun _ => ?_) | apply LeO.ite | refine LeO.bind ?_ fun _ => ?_
def laws_FnTestsRun.T8 : Bool × List (List Nat × List Nat) := (true, [([], []), ([], []), ([], []), ([1, 2], [1, 2]), ([3], [3]), ([0, 4, 4], [0, 4]), ([], []), ([], []), ([6, 7], [6, 7]), ([8, 5], [8]), ([5, 9, 9], [5, 9]), ([], []), ([10, 11, 10], [10, 11]), ([12, 12, 0, 1, 2, 3, 4, 5, 6, 7, 8, 9, 10, 11, 12], [12])])
def laws_FnTestsRun.B8 : List Nat := [0, 0, 0, 6, 14, 31, 0, 0, 192, 511, 1023, 0, 4095, 8191]
theorem laws_FnTestsRun.tab8 : rtab .any (opsOf Try.f10 8) = laws_FnTestsRun.T8 := by kernel_rfl
theorem laws_FnTestsRun.bits8 : waitsOk laws_FnTestsRun.T8.2 laws_FnTestsRun.B8 = true := by kernel_rfl
set_option maxHeartbeats 8000000 in
set_option maxRecDepth 100000 in
theorem laws_FnTestsRun.calls (k : Nat) (A0 : Option Addr) (c0 : Nat) (l0 : List Int) (r : Bool) (w : World) (hr0 : Kd.C (Kd.int .u8) w A0 l0.length l0) (hc0 : l0.length ≤ c0) (h : laws_FnTestsRun.f k l0 = some r) :
  Calls Try.prog 10 #[.slice A0 l0.length c0] w fun e w' => e = .returned (.bool r) ∧ Below w.heap.size w w' := by
 have HR0 := zA hr0; have HC0 := zA hc0; clear hr0 hc0; have HB := zA zz2
 have H : (if (l0.length : Int) > 1048576 then (some true) else ((spec_DrawTestsRun.f k l0).bind fun t685 => ((impl_TestsRun.f k t685).bind fun t688 => ((spec_TestsRun.f k t685).bind fun t691 => ((laws_equalTexts.f k t688 t691).bind fun t694 => (if t694 = true then ((some (([] : List ByteArray) : List ByteArray)).bind fun y695 => (if 0 ≤ (wrap64 ((t685.length : Int) / 2)) then (if (wrap64 ((t685.length : Int) / 2)) ≤ (t685.length : Int) then ((impl_TestsRun.f k (t685.take ((wrap64 ((t685.length : Int) / 2)) : Int).toNat)).bind fun t702 => (if y695.length + t702.length < 8796093022208 then ((some (y695 ++ t702 : List ByteArray)).bind fun y705 => ((impl_TestsRun.f k (t685.drop ((wrap64 ((t685.length : Int) / 2)) : Int).toNat)).bind fun t712 => (if y705.length + t712.length < 8796093022208 then ((laws_equalTexts.f k (y705 ++ t712) t688).bind fun t718 => (some t718)) else (none)))) else (none))) else (none)) else (none))) else ((spec_TestsRun.f k t685).bind fun t719 => ((laws_equalTexts.f k t688 t719).bind fun t722 => (some t722))))))))) = some r := h
 clear h
 rcases ie_ H with ⟨c2, H⟩ | ⟨c2, H⟩
 ·have c2b0 : decide (1048576 < (l0.length : Int)) = true := decide_eq_true c2
  have c2b1 : decide (1048576 < l0.length) = true := decide_eq_true (by omega)
  clear c2
  obtain rfl := Option.some.inj H
  go_enter Try.func10, Try.ntmps10
  go_wp2
  go_ret
  exact ⟨zz14, zz23⟩
 ·have c2b0 : decide (1048576 < (l0.length : Int)) = false := decide_eq_false c2
  have c2b1 : decide (1048576 < l0.length) = false := decide_eq_false (by omega)
  clear c2
  obtain ⟨t685, A3, H⟩ := bs_ H
  (try dsimp only at H)
  obtain ⟨t688, A4, H⟩ := bs_ H
  (try dsimp only at H)
  obtain ⟨t691, A5, H⟩ := bs_ H
  (try dsimp only at H)
  obtain ⟨t694, A6, H⟩ := bs_ H
  (try dsimp only at H)
  by_cases c7 : t694 = true
  ·subst c7
   have H1 : ((some (([] : List ByteArray) : List ByteArray)).bind fun y695 => (if 0 ≤ (wrap64 ((t685.length : Int) / 2)) then (if (wrap64 ((t685.length : Int) / 2)) ≤ (t685.length : Int) then ((impl_TestsRun.f k (t685.take ((wrap64 ((t685.length : Int) / 2)) : Int).toNat)).bind fun t702 => (if y695.length + t702.length < 8796093022208 then ((some (y695 ++ t702 : List ByteArray)).bind fun y705 => ((impl_TestsRun.f k (t685.drop ((wrap64 ((t685.length : Int) / 2)) : Int).toNat)).bind fun t712 => (if y705.length + t712.length < 8796093022208 then ((laws_equalTexts.f k (y705 ++ t712) t688).bind fun t718 => (some t718)) else (none)))) else (none))) else (none)) else (none))) = some r := by rw [if_pos rfl] at H; exact H
   clear H; have H := H1; clear H1
   obtain ⟨y695, hy695⟩ : ∃ y_ : List ByteArray, y_ = (([] : List ByteArray)) := ⟨_, rfl⟩
   replace H := zB hy695 H
   have Ny695 := zA hy695; clear hy695
   obtain ⟨ji8, hji8⟩ : ∃ j_ : Int, (wrap64 ((t685.length : Int) / 2)) = j_ := ⟨_, rfl⟩
   replace H : (if 0 ≤ (ji8) then (if (ji8) ≤ (t685.length : Int) then ((impl_TestsRun.f k (t685.take ((ji8) : Int).toNat)).bind fun t702 => (if y695.length + t702.length < 8796093022208 then ((some (y695 ++ t702 : List ByteArray)).bind fun y705 => ((impl_TestsRun.f k (t685.drop ((ji8) : Int).toNat)).bind fun t712 => (if y705.length + t712.length < 8796093022208 then ((laws_equalTexts.f k (y705 ++ t712) t688).bind fun t718 => (some t718)) else (none)))) else (none))) else (none)) else (none)) = some r := (zz15 hji8)
   (try rw [hji8] at A3)
   (try rw [hji8] at A4)
   (try rw [hji8] at A5)
   (try rw [hji8] at A6)
   have hji8w : (IntKind.i64.wrap ((t685.length : Int) / 2)) = ji8 := (i64_w _).trans hji8
   obtain ⟨c9, H⟩ := in_ H
   have c9b0 := eq_true c9
   have c9b1 : decide (0 ≤ (ji8)) = true := decide_eq_true c9
   clear c9
   obtain ⟨c10, H⟩ := in_ H
   have c10b0 := eq_true c10
   have c10b1 : decide ((ji8) ≤ (t685.length : Int)) = true := decide_eq_true c10
   clear c10
   obtain ⟨y698, hy698⟩ : ∃ y_ : List (S70), y_ = (t685.take ((ji8) : Int).toNat) := ⟨_, rfl⟩
   replace H : ((impl_TestsRun.f k y698).bind fun t702 => (if y695.length + t702.length < 8796093022208 then ((some (y695 ++ t702 : List ByteArray)).bind fun y705 => ((impl_TestsRun.f k (t685.drop ((ji8) : Int).toNat)).bind fun t712 => (if y705.length + t712.length < 8796093022208 then ((laws_equalTexts.f k (y705 ++ t712) t688).bind fun t718 => (some t718)) else (none)))) else (none))) = some r := (zz24 hy698)
   have Ny698 := zA hy698; clear hy698
   obtain ⟨t702, A11, H⟩ := bs_ H
   (try dsimp only at H)
   obtain ⟨c12, H⟩ := in_ H
   have LMc12 := zA c12; clear c12
   obtain ⟨y705, hy705⟩ : ∃ y_ : List ByteArray, y_ = (y695 ++ t702) := ⟨_, rfl⟩
   replace H := zB hy705 H
   have Ny705 := zA hy705; clear hy705; have c13b0 := eq_true (of_decide_eq_true zz3 : 0 ≤ (ji8)); have c14b0 := eq_true (of_decide_eq_true zz3 : (ji8) ≤ (t685.length : Int))
   obtain ⟨y708, hy708⟩ : ∃ y_ : List (S70), y_ = (t685.drop ((ji8) : Int).toNat) := ⟨_, rfl⟩
   replace H : ((impl_TestsRun.f k y708).bind fun t712 => (if y705.length + t712.length < 8796093022208 then ((laws_equalTexts.f k (y705 ++ t712) t688).bind fun t718 => (some t718)) else (none))) = some r := (zz24 hy708)
   have Ny708 := zA hy708; clear hy708
   obtain ⟨t712, A15, H⟩ := bs_ H
   (try dsimp only at H)
   obtain ⟨c16, H⟩ := in_ H
   have LMc16 := zA c16; clear c16
   obtain ⟨y715, hy715⟩ : ∃ y_ : List ByteArray, y_ = (y705 ++ t712) := ⟨_, rfl⟩
   replace H : ((laws_equalTexts.f k y715 t688).bind fun t718 => (some t718)) = some r := (zz24 hy715)
   have Ny715 := zA hy715; clear hy715
   obtain ⟨t718, A17, H⟩ := bs_ H
   (try dsimp only at H)
   obtain rfl := Option.some.inj H
   go_enter Try.func10, Try.ntmps10
   try go_wp2_with (first | ((with_reducible refine gate_callee (f := 45) rfl ?_); refine goesL_ (some 10) rfl rfl Try.func45 (by kernel_rfl) rfl #[.slice A0 l0.length c0] rfl zz17 ?_; (with_reducible refine (spec_DrawTestsRun.calls k _ _ l0 t685 _ ?side1 ?side2 A3.out).mono ?_); (case side1 => exact (zz135 HR0.out)); (case side2 => exact HC0.out); rintro e w18 ⟨v686, rfl, ho0, hb⟩; refine ⟨_, rfl, ?_⟩; have HO687 := zA (zz39 ho0); replace HB := zA zz4; (try clear hb); (try clear ho0); obtain ⟨Ao19, co19, eo19⟩ := Kd.R_slice HO687.out; subst eo19) | ((with_reducible refine gate_callee (f := 46) rfl ?_); refine goesL_ (some 12) rfl rfl Try.func46 (by kernel_rfl) rfl #[.slice Ao19 t685.length co19] rfl zz17 ?_; (with_reducible refine (impl_TestsRun.calls k _ _ t685 t688 _ ?side1 ?side2 A4.out).mono ?_); (case side1 => exact (zz20 HO687.out)); (case side2 => exact (zz21 HO687.out)); rintro e w20 ⟨v689, rfl, ho0, hb⟩; refine ⟨_, rfl, ?_⟩; replace HO687 := zA (zz33 HO687.out); have HO690 := zA (zz39 ho0); replace HB := zA zz4; (try clear hb); (try clear ho0)) | ((with_reducible refine gate_callee (f := 48) rfl ?_); refine goesL_ (some 15) rfl rfl Try.func48 (by kernel_rfl) rfl #[.slice Ao19 t685.length co19] rfl zz17 ?_; (with_reducible refine (spec_TestsRun.calls k _ _ t685 t691 _ ?side1 ?side2 A5.out).mono ?_); (case side1 => exact (zz20 HO687.out)); (case side2 => exact (zz21 HO687.out)); rintro e w21 ⟨v692, rfl, ho0, hb⟩; refine ⟨_, rfl, ?_⟩; replace HO687 := zA (zz33 HO687.out); have HO693 := zA (zz43 ho0 HO690.out); replace HO690 := zA (zz44 HO690.out ho0); replace HB := zA zz4; (try clear hb); (try clear ho0); obtain ⟨Ao22, co22, eo22⟩ := Kd.R_slice HO690.out; subst eo22; obtain ⟨Ao23, co23, eo23⟩ := Kd.R_slice HO693.out; subst eo23) | ((with_reducible refine gate_callee (f := 47) rfl ?_); refine goesL_ (some 16) rfl rfl Try.func47 (by kernel_rfl) rfl #[.slice Ao22 t688.length co22, .slice Ao23 t691.length co23] rfl zz17 ?_; (with_reducible refine (laws_equalTexts.calls k _ _ t688 _ _ t691 true _ ?side1 ?side2 ?side3 ?side4 A6.out).mono ?_); (case side1 => exact (zz20 HO690.out)); (case side2 => exact (zz21 HO690.out)); (case side3 => exact (zz20 HO693.out)); (case side4 => exact (zz21 HO693.out)); rintro e w' ⟨rfl, ⟨nd, rfl⟩⟩; refine ⟨_, rfl, ?_⟩))
   (try (rw [drewN_self w21]; generalize hq_ : World.drewN w21 _ = w21; have n0_ : Aside0 (Kd.R k70 70 w21 w.heap.size (fun _ => True) (.slice Ao19 t685.length co19) t685) := ⟨(zz119 HO687.out)⟩; have n1_ : Aside0 (Kd.R Kd.string 9 w21 w.heap.size (fun k_ => some k_ ≠ (.slice Ao23 t691.length co23 : Value).ownBlock) (.slice Ao22 t688.length co22) t688) := ⟨by rw [← hq_]; exact (zz94 HO690.out)⟩; have n2_ : Aside0 (Kd.R Kd.string 9 w21 w.heap.size (fun k_ => some k_ ≠ (.slice Ao22 t688.length co22 : Value).ownBlock) (.slice Ao23 t691.length co23) t691) := ⟨by rw [← hq_]; exact (zz94 HO693.out)⟩; have n3_ : Aside0 (Below w.heap.size w w21) := ⟨by rw [← hq_]; exact zz56⟩; clear HO687 HO690 HO693 HB hq_; have HO687 := n0_; have HO690 := n1_; have HO693 := n2_; have HB := n3_; clear n0_ n1_ n2_ n3_))
   replace HO687 := zA (Kd.R_drew HO687.out); replace HO690 := zA (Kd.R_drew HO690.out); replace HO693 := zA (Kd.R_drew HO693.out); replace HB := zA zz40
   have q25 : ((ji8) : Int) ≤ ((t685.length : Int) : Int) := dz_
   obtain ⟨i025, hi025, _, hsz25, _⟩ := info_parts info70
   have hroom25 : t685.length ≤ co19 := (Kd.R_reads' HO687.out).2.1
   have hC25 : Kd.C k70 _ Ao19 t685.length t685 := (Kd.R_reads' HO687.out).2.2
   have hcut25 := cut_to (P := Try.prog) 25 70 .i64 Try.underlying25 hi025 Ao19 t685.length co19 (ji8) (of_decide_eq_true zz3) q25 hroom25; have hr25 := Kd.C_take (m := ((ji8) : Int).toNat) hC25 (by omega)
   have hy25 : y698.length = ((ji8) : Int).toNat := (zz42 Ny698.out)
   rw [← Ny698.out] at hr25
   rw [← hy25] at hcut25
   have HR701 := zA hr25
   have HC701 := zA (show y698.length ≤ co19 from by omega)
   clear hr25 hC25 hroom25 hi025 hsz25; have KY25 := zA hy25; clear hy25
   have KL25 := zA (show ((ji8) : Int).toNat ≤ t685.length from by omega)
   replace q25 := eq_true q25
   have q26 : ((ji8) : Int) ≤ ((t685.length : Int) : Int) := dz_
   obtain ⟨i026, hi026, _, hsz26, _⟩ := info_parts info70
   have hroom26 : t685.length ≤ co19 := (Kd.R_reads' HO687.out).2.1
   have hC26 : Kd.C k70 _ Ao19 t685.length t685 := (Kd.R_reads' HO687.out).2.2
   have q026 : (0 : Int) ≤ ((ji8) : Int) := dz_
   have hcut26 := cut_from (P := Try.prog) 25 70 .i64 Try.underlying25 hi026 2 hsz26 Ao19 t685.length co19 (ji8) q026 q26; have hr26 := Kd.C_drop (m := ((ji8) : Int).toNat) (c := co19) hC26 (by omega) hroom26
   obtain ⟨A26, hA26⟩ : ∃ A1, A1 = (if co19 = ((ji8) : Int).toNat then Ao19 else (Ao19 : Option Addr).map (·.add (((ji8) : Int).toNat * 2))) := ⟨_, rfl⟩
   obtain ⟨c26, hc26⟩ : ∃ c1, c1 = co19 - ((ji8) : Int).toNat := ⟨_, rfl⟩
   have hy26 : y708.length = t685.length - ((ji8) : Int).toNat := (by rw [Ny708.out, List.length_drop] <;> omega)
   rw [show (t685).drop ((ji8) : Int).toNat = y708 from Ny708.out.symm] at hr26
   replace hr26 : Kd.C k70 _ A26 y708.length y708 := (by rw [hA26]; exact hr26)
   rw [← hy26, ← hA26, ← hc26] at hcut26
   have HR711 := zA hr26
   have HC711 := zA (show y708.length ≤ c26 from by rw [hy26, hc26]; exact Nat.sub_le_sub_right hroom26 _)
   clear hr26 hC26 hroom26 hi026 hsz26 hc26; have KY26 := zA hy26; have KA26 := zA hA26; clear hy26 hA26
   have KL26 := zA (show ((ji8) : Int).toNat ≤ t685.length from by omega)
   replace q26 := eq_true q26
   refine start_ (n := 14) (S := fun w' => True) (ds := []) #[ff,ff,ff,ff,ff,ff,ff,ff,ff,ff,ff,ff,ff,ff] (by kernel_rfl) rfl rfl trivial (fun hHeld => ?_); refine with_tabW laws_FnTestsRun.tab8 laws_FnTestsRun.bits8 (fun HT_ HW_ => ?_)
   generalize w21.drew = w24 at HO687 HO690 HO693 HB HR701 HR711 hHeld ⊢
   refine qp_ 1 28 ?_
   refine qp_ 2 29 ?_
   refine qp_ 3 30 ?_
   refine qp_ 6 33 ?_
   refine qp_ 7 34 ?_
   refine qp_ 8 35 ?_
   refine qp_ 11 38 ?_
   refine join_ (σ := Value × Value) 5 #[tt,tt,tt,tt,tt,ff,tt,tt,tt,ff,ff,tt,ff,ff] (fun s_ => [(27, s_.1), (31, s_.2)]) (fun s_ w' => (Kd.R k70 70 w' w.heap.size (fun _ => True) (.slice Ao19 t685.length co19) t685) ∧ (Kd.R Kd.string 9 w' w.heap.size (fun k_ => some k_ ≠ (.slice Ao23 t691.length co23 : Value).ownBlock ∧ some k_ ≠ (s_.1 : Value).ownBlock ∧ some k_ ≠ (s_.2 : Value).ownBlock) (.slice Ao22 t688.length co22) t688) ∧ (Kd.R Kd.string 9 w' w.heap.size (fun k_ => some k_ ≠ (.slice Ao22 t688.length co22 : Value).ownBlock ∧ some k_ ≠ (s_.1 : Value).ownBlock ∧ some k_ ≠ (s_.2 : Value).ownBlock) (.slice Ao23 t691.length co23) t691) ∧ (Kd.R Kd.string 9 w' w.heap.size (fun k_ => some k_ ≠ (.slice Ao22 t688.length co22 : Value).ownBlock ∧ some k_ ≠ (.slice Ao23 t691.length co23 : Value).ownBlock ∧ some k_ ≠ (s_.2 : Value).ownBlock) s_.1 y695) ∧ (Kd.R Kd.string 9 w' w.heap.size (fun k_ => some k_ ≠ (.slice Ao22 t688.length co22 : Value).ownBlock ∧ some k_ ≠ (.slice Ao23 t691.length co23 : Value).ownBlock ∧ some k_ ≠ (s_.1 : Value).ownBlock) s_.2 t702) ∧ (Below w.heap.size w w')) ?_ ?_
   rotate_left
   ·intro hCont
    refine two_ (i := 0) (j := 4) (Ni := some 27) (Nj := some 31) #[tt,tt,tt,tt,ff,ff,tt,tt,tt,ff,ff,tt,ff,ff] #[ff,tt,tt,tt,tt,ff,tt,tt,tt,ff,ff,tt,ff,ff] rfl rfl rfl rfl (two_of HT_.out (by kernel_rfl)) (by decide) (by decide) (fun K hK => ?_) (fun K hK => ?_)
    ·skip
     refine Kd.R_lit_step Kd.string _ 9 ?hg (N := 27) ?hd (xs := ([] : List ByteArray)) (inner := []) (ok := fun _ => True) (okp := fun _ => True) ?hr ?hp (fun _ hk => hk) trivial (Below.refl _ _) (Nat.le_refl _) (by simp) ?_; (case hd => rfl); (case hg => rfl); (case hr => exact zz32); (case hp => exact (Reps.none _ _))
     intro v696 w27 ho28 hb hg_ hnew_
     clear hg_ hnew_
     replace ho28 := ny_ Ny695.out ho28
     replace HO687 := zA (zz33 HO687.out)
     have HO697 := zA (zz51 ho28 HO690.out HO693.out)
     replace HO690 := zA (zz44 HO690.out ho28)
     replace HO693 := zA (zz44 HO693.out ho28)
     replace HR701 := zA (zz45 HR701.out)
     replace HR711 := zA (zz45 HR711.out)
     replace HB := zA zz4
     clear hb ho28
     refine hK.out _ _ trivial (fun hHeld => ?_)
     clear hK K
     refine qn_ 27 ?_
     refine qo_ 4 31 (fun K hK => ?_)
     refine goes_ Try.func46 (by kernel_rfl) rfl #[.slice Ao19 y698.length co19] (by rfl) rfl rfl zz17 ?_
     with_reducible refine (impl_TestsRun.calls k _ _ y698 t702 _ ?side1 ?side2 A11.out).mono ?_
     (case side1 => exact (zz46 HR701.out))
     (case side2 => exact HC701.out)
     rintro e w29 ⟨v703, rfl, ho0, hb⟩
     refine ⟨_, rfl, ?_⟩
     replace HO687 := zA (zz33 HO687.out)
     have HO704 := zA (Kd.R_lower (Kd.R_new' (Kd.R_new' (Kd.R_new' ho0 (Kd.R_lt (zz22 HO690.out))) (Kd.R_lt (zz22 HO693.out))) (Kd.R_lt (zz22 HO697.out))) (below_size zz56))
     replace HO690 := zA (zz44 HO690.out ho0)
     replace HO693 := zA (zz44 HO693.out ho0)
     replace HO697 := zA (zz44 HO697.out ho0)
     replace HR701 := zA (zz45 HR701.out)
     replace HR711 := zA (zz45 HR711.out)
     replace HB := zA zz4
     (try clear hb)
     (try clear hb2)
     (try clear hk)
     (try clear hi)
     (try clear ho0)
     refine hK.out _ _ trivial (fun hHeld => ?_)
     clear hK K
     refine qn_ 31 ?_
     exact norm_ zz52 (hCont (v696, v703) _ ⟨(zz22 HO687.out), (by (with_reducible repeat first | apply Kd.R_alloc | apply Kd.R_drewN | apply Kd.R_drew); exact Kd.R_mono HO690.out (fun _ hk => by refine ⟨?_, ?_, ?_⟩ <;> first | exact hk | exact hk.1 | exact hk.2 | exact hk.1.1 | exact hk.1.2 | exact hk.2.1 | exact hk.2.2 | exact hk.1.1.1 | exact hk.1.1.2 | exact hk.1.2.1 | exact hk.1.2.2 | exact hk.2.1.1 | exact hk.2.1.2 | exact hk.2.2.1 | exact hk.2.2.2 | exact hk.1.1.1.1 | exact hk.1.1.1.2 | exact hk.1.1.2.1 | exact hk.1.1.2.2 | exact hk.1.2.1.1 | exact hk.1.2.1.2 | exact hk.1.2.2.1 | exact hk.1.2.2.2 | exact hk.2.1.1.1 | exact hk.2.1.1.2 | exact hk.2.1.2.1 | exact hk.2.1.2.2 | exact hk.2.2.1.1 | exact hk.2.2.1.2 | exact hk.2.2.2.1 | exact hk.2.2.2.2)), (by (with_reducible repeat first | apply Kd.R_alloc | apply Kd.R_drewN | apply Kd.R_drew); exact Kd.R_mono HO693.out (fun _ hk => by refine ⟨?_, ?_, ?_⟩ <;> first | exact hk | exact hk.1 | exact hk.2 | exact hk.1.1 | exact hk.1.2 | exact hk.2.1 | exact hk.2.2 | exact hk.1.1.1 | exact hk.1.1.2 | exact hk.1.2.1 | exact hk.1.2.2 | exact hk.2.1.1 | exact hk.2.1.2 | exact hk.2.2.1 | exact hk.2.2.2 | exact hk.1.1.1.1 | exact hk.1.1.1.2 | exact hk.1.1.2.1 | exact hk.1.1.2.2 | exact hk.1.2.1.1 | exact hk.1.2.1.2 | exact hk.1.2.2.1 | exact hk.1.2.2.2 | exact hk.2.1.1.1 | exact hk.2.1.1.2 | exact hk.2.1.2.1 | exact hk.2.1.2.2 | exact hk.2.2.1.1 | exact hk.2.2.1.2 | exact hk.2.2.2.1 | exact hk.2.2.2.2)), (by (with_reducible repeat first | apply Kd.R_alloc | apply Kd.R_drewN | apply Kd.R_drew); exact Kd.R_mono HO697.out (fun _ hk => by refine ⟨?_, ?_, ?_⟩ <;> first | exact hk | exact hk.1 | exact hk.2 | exact hk.1.1 | exact hk.1.2 | exact hk.2.1 | exact hk.2.2 | exact hk.1.1.1 | exact hk.1.1.2 | exact hk.1.2.1 | exact hk.1.2.2 | exact hk.2.1.1 | exact hk.2.1.2 | exact hk.2.2.1 | exact hk.2.2.2 | exact hk.1.1.1.1 | exact hk.1.1.1.2 | exact hk.1.1.2.1 | exact hk.1.1.2.2 | exact hk.1.2.1.1 | exact hk.1.2.1.2 | exact hk.1.2.2.1 | exact hk.1.2.2.2 | exact hk.2.1.1.1 | exact hk.2.1.1.2 | exact hk.2.1.2.1 | exact hk.2.1.2.2 | exact hk.2.2.1.1 | exact hk.2.2.1.2 | exact hk.2.2.2.1 | exact hk.2.2.2.2)), (by (with_reducible repeat first | apply Kd.R_alloc | apply Kd.R_drewN | apply Kd.R_drew); exact Kd.R_mono HO704.out (fun _ hk => by refine ⟨?_, ?_, ?_⟩ <;> first | exact hk | exact hk.1 | exact hk.2 | exact hk.1.1 | exact hk.1.2 | exact hk.2.1 | exact hk.2.2 | exact hk.1.1.1 | exact hk.1.1.2 | exact hk.1.2.1 | exact hk.1.2.2 | exact hk.2.1.1 | exact hk.2.1.2 | exact hk.2.2.1 | exact hk.2.2.2 | exact hk.1.1.1.1 | exact hk.1.1.1.2 | exact hk.1.1.2.1 | exact hk.1.1.2.2 | exact hk.1.2.1.1 | exact hk.1.2.1.2 | exact hk.1.2.2.1 | exact hk.1.2.2.2 | exact hk.2.1.1.1 | exact hk.2.1.1.2 | exact hk.2.1.2.1 | exact hk.2.1.2.2 | exact hk.2.2.1.1 | exact hk.2.2.1.2 | exact hk.2.2.2.1 | exact hk.2.2.2.2)), zz56⟩)
    ·skip
     refine goes_ Try.func46 (by kernel_rfl) rfl #[.slice Ao19 y698.length co19] (by rfl) rfl rfl zz17 ?_
     with_reducible refine (impl_TestsRun.calls k _ _ y698 t702 _ ?side1 ?side2 A11.out).mono ?_
     (case side1 => exact (zz46 HR701.out))
     (case side2 => exact HC701.out)
     rintro e w27 ⟨v703, rfl, ho0, hb⟩
     refine ⟨_, rfl, ?_⟩
     replace HO687 := zA (zz33 HO687.out)
     have HO704 := zA (zz51 ho0 HO690.out HO693.out)
     replace HO690 := zA (zz44 HO690.out ho0)
     replace HO693 := zA (zz44 HO693.out ho0)
     replace HR701 := zA (zz45 HR701.out)
     replace HR711 := zA (zz45 HR711.out)
     replace HB := zA zz4
     (try clear hb)
     (try clear hb2)
     (try clear hk)
     (try clear hi)
     (try clear ho0)
     refine hK.out _ _ trivial (fun hHeld => ?_)
     clear hK K
     refine qn_ 31 ?_
     refine qo_ 0 27 (fun K hK => ?_)
     refine Kd.R_lit_step Kd.string _ 9 ?hg (N := 27) ?hd (xs := ([] : List ByteArray)) (inner := []) (ok := fun _ => True) (okp := fun _ => True) ?hr ?hp (fun _ hk => hk) trivial (Below.refl _ _) (Nat.le_refl _) (by simp) ?_; (case hd => rfl); (case hg => rfl); (case hr => exact zz32); (case hp => exact (Reps.none _ _))
     intro v696 w28 ho29 hb hg_ hnew_
     clear hg_ hnew_
     replace ho29 := ny_ Ny695.out ho29
     replace HO687 := zA (zz33 HO687.out)
     have HO697 := zA (Kd.R_lower (Kd.R_new' (Kd.R_new' (Kd.R_new' ho29 (Kd.R_lt (zz22 HO690.out))) (Kd.R_lt (zz22 HO693.out))) (Kd.R_lt (zz22 HO704.out))) (below_size zz56))
     replace HO690 := zA (zz44 HO690.out ho29)
     replace HO693 := zA (zz44 HO693.out ho29)
     replace HO704 := zA (zz44 HO704.out ho29)
     replace HR701 := zA (zz45 HR701.out)
     replace HR711 := zA (zz45 HR711.out)
     replace HB := zA zz4
     clear hb ho29
     refine hK.out _ _ trivial (fun hHeld => ?_)
     clear hK K
     refine qn_ 27 ?_
     exact norm_ zz52 (hCont (v696, v703) _ ⟨(zz22 HO687.out), (by (with_reducible repeat first | apply Kd.R_alloc | apply Kd.R_drewN | apply Kd.R_drew); exact Kd.R_mono HO690.out (fun _ hk => by refine ⟨?_, ?_, ?_⟩ <;> first | exact hk | exact hk.1 | exact hk.2 | exact hk.1.1 | exact hk.1.2 | exact hk.2.1 | exact hk.2.2 | exact hk.1.1.1 | exact hk.1.1.2 | exact hk.1.2.1 | exact hk.1.2.2 | exact hk.2.1.1 | exact hk.2.1.2 | exact hk.2.2.1 | exact hk.2.2.2 | exact hk.1.1.1.1 | exact hk.1.1.1.2 | exact hk.1.1.2.1 | exact hk.1.1.2.2 | exact hk.1.2.1.1 | exact hk.1.2.1.2 | exact hk.1.2.2.1 | exact hk.1.2.2.2 | exact hk.2.1.1.1 | exact hk.2.1.1.2 | exact hk.2.1.2.1 | exact hk.2.1.2.2 | exact hk.2.2.1.1 | exact hk.2.2.1.2 | exact hk.2.2.2.1 | exact hk.2.2.2.2)), (by (with_reducible repeat first | apply Kd.R_alloc | apply Kd.R_drewN | apply Kd.R_drew); exact Kd.R_mono HO693.out (fun _ hk => by refine ⟨?_, ?_, ?_⟩ <;> first | exact hk | exact hk.1 | exact hk.2 | exact hk.1.1 | exact hk.1.2 | exact hk.2.1 | exact hk.2.2 | exact hk.1.1.1 | exact hk.1.1.2 | exact hk.1.2.1 | exact hk.1.2.2 | exact hk.2.1.1 | exact hk.2.1.2 | exact hk.2.2.1 | exact hk.2.2.2 | exact hk.1.1.1.1 | exact hk.1.1.1.2 | exact hk.1.1.2.1 | exact hk.1.1.2.2 | exact hk.1.2.1.1 | exact hk.1.2.1.2 | exact hk.1.2.2.1 | exact hk.1.2.2.2 | exact hk.2.1.1.1 | exact hk.2.1.1.2 | exact hk.2.1.2.1 | exact hk.2.1.2.2 | exact hk.2.2.1.1 | exact hk.2.2.1.2 | exact hk.2.2.2.1 | exact hk.2.2.2.2)), (by (with_reducible repeat first | apply Kd.R_alloc | apply Kd.R_drewN | apply Kd.R_drew); exact Kd.R_mono HO697.out (fun _ hk => by refine ⟨?_, ?_, ?_⟩ <;> first | exact hk | exact hk.1 | exact hk.2 | exact hk.1.1 | exact hk.1.2 | exact hk.2.1 | exact hk.2.2 | exact hk.1.1.1 | exact hk.1.1.2 | exact hk.1.2.1 | exact hk.1.2.2 | exact hk.2.1.1 | exact hk.2.1.2 | exact hk.2.2.1 | exact hk.2.2.2 | exact hk.1.1.1.1 | exact hk.1.1.1.2 | exact hk.1.1.2.1 | exact hk.1.1.2.2 | exact hk.1.2.1.1 | exact hk.1.2.1.2 | exact hk.1.2.2.1 | exact hk.1.2.2.2 | exact hk.2.1.1.1 | exact hk.2.1.1.2 | exact hk.2.1.2.1 | exact hk.2.1.2.2 | exact hk.2.2.1.1 | exact hk.2.2.1.2 | exact hk.2.2.2.1 | exact hk.2.2.2.2)), (by (with_reducible repeat first | apply Kd.R_alloc | apply Kd.R_drewN | apply Kd.R_drew); exact Kd.R_mono HO704.out (fun _ hk => by refine ⟨?_, ?_, ?_⟩ <;> first | exact hk | exact hk.1 | exact hk.2 | exact hk.1.1 | exact hk.1.2 | exact hk.2.1 | exact hk.2.2 | exact hk.1.1.1 | exact hk.1.1.2 | exact hk.1.2.1 | exact hk.1.2.2 | exact hk.2.1.1 | exact hk.2.1.2 | exact hk.2.2.1 | exact hk.2.2.2 | exact hk.1.1.1.1 | exact hk.1.1.1.2 | exact hk.1.1.2.1 | exact hk.1.1.2.2 | exact hk.1.2.1.1 | exact hk.1.2.1.2 | exact hk.1.2.2.1 | exact hk.1.2.2.2 | exact hk.2.1.1.1 | exact hk.2.1.1.2 | exact hk.2.1.2.1 | exact hk.2.1.2.2 | exact hk.2.2.1.1 | exact hk.2.2.1.2 | exact hk.2.2.2.1 | exact hk.2.2.2.2)), zz56⟩)
   rintro ⟨v696, v703⟩ w30 ⟨h0_, h1_, h2_, h3_, h4_, h5_⟩
   have n0_ : Aside0 (Kd.R k70 70 w30 w.heap.size (fun _ => True) (.slice Ao19 t685.length co19) t685) := ⟨h0_⟩
   have n1_ : Aside0 (Kd.R Kd.string 9 w30 w.heap.size (fun k_ => some k_ ≠ (.slice Ao23 t691.length co23 : Value).ownBlock ∧ some k_ ≠ (v696 : Value).ownBlock ∧ some k_ ≠ (v703 : Value).ownBlock) (.slice Ao22 t688.length co22) t688) := ⟨h1_⟩
   have n2_ : Aside0 (Kd.R Kd.string 9 w30 w.heap.size (fun k_ => some k_ ≠ (.slice Ao22 t688.length co22 : Value).ownBlock ∧ some k_ ≠ (v696 : Value).ownBlock ∧ some k_ ≠ (v703 : Value).ownBlock) (.slice Ao23 t691.length co23) t691) := ⟨h2_⟩
   have n3_ : Aside0 (Kd.R Kd.string 9 w30 w.heap.size (fun k_ => some k_ ≠ (.slice Ao22 t688.length co22 : Value).ownBlock ∧ some k_ ≠ (.slice Ao23 t691.length co23 : Value).ownBlock ∧ some k_ ≠ (v703 : Value).ownBlock) v696 y695) := ⟨h3_⟩
   have n4_ : Aside0 (Kd.R Kd.string 9 w30 w.heap.size (fun k_ => some k_ ≠ (.slice Ao22 t688.length co22 : Value).ownBlock ∧ some k_ ≠ (.slice Ao23 t691.length co23 : Value).ownBlock ∧ some k_ ≠ (v696 : Value).ownBlock) v703 t702) := ⟨h4_⟩
   have n5_ : Aside0 (Below w.heap.size w w30) := ⟨h5_⟩
   clear HO687 HO690 HO693 HB h0_ h1_ h2_ h3_ h4_ h5_; have HO687 := n0_; have HO690 := n1_; have HO693 := n2_; have HO697 := n3_; have HO704 := n4_; have HB := n5_; clear n0_ n1_ n2_ n3_ n4_ n5_; have hHeld := trivial
   obtain ⟨Ao32, co32, eo32⟩ := Kd.R_slice HO704.out
   (first | subst eo32 | (injection eo32 with f1_ f2_ f3_; have f4_ := f1_.symm; have f5_ := f3_.symm; clear f1_ f2_ f3_; subst f4_; subst f5_))
   refine norm_ (a' := ?_) ?_ ?_
   rotate_left
   ·simp only [putAll, Act.put, List.setIfInBounds_toArray, List.set_cons_zero, List.set_cons_succ]
    rfl
   refine qo_ 5 32 (fun K hK => ?_)
   refine Kd.R_append_rows_step Kd.string (w0 := w) w.heap.size (by rfl) (.tmp 27) (.tmp 31) 31 9 (.string ⟨#[]⟩) 16 rfl Try.underlying31 info9 rfl (by decide) (by omega) v696 y695 t702 _ _ _ (fun k_ => some k_ ≠ (.slice Ao22 t688.length co22 : Value).ownBlock ∧ some k_ ≠ (.slice Ao23 t691.length co23 : Value).ownBlock ∧ some k_ ≠ (.slice Ao32 t702.length co32 : Value).ownBlock) (fun _ => False) rfl rfl ?aO ?aR (fun _ _ h => h) (fun _ h => h.elim) ?aF ?aB ?aS ?aL ?_
   (case aR => exact (zz20 HO704.out))
   (case aB => exact zz25)
   (case aF => exact (fun k_ hk => ⟨Kd.fresh' (Kd.R_lt (zz22 HO690.out)) k_ hk, Kd.fresh' (Kd.R_lt (zz22 HO693.out)) k_ hk, Kd.fresh' (Kd.R_lt (zz22 HO704.out)) k_ hk⟩))
   (case aO => exact (zz26 HO697.out))
   (case aS => exact zz27)
   (case aL => have := LMc12.out; omega)
   intro v706 w31 ho hb hg hat
   rw [← Ny705.out] at ho
   replace HO687 := zA (zz176 HO687.out HO697.out)
   replace HO690 := zA (Kd.R_after (ok := (fun k_ => some k_ ≠ (.slice Ao23 t691.length co23 : Value).ownBlock ∧ some k_ ≠ (.slice Ao32 t702.length co32 : Value).ownBlock)) (by (with_reducible repeat first | apply Kd.R_alloc | apply Kd.R_drewN | apply Kd.R_drew); exact Kd.R_mono HO690.out (fun _ hk => ⟨⟨hk.1, hk.2.2⟩, hk.2.1⟩)) hg hat)
   replace HO693 := zA (Kd.R_after (ok := (fun k_ => some k_ ≠ (.slice Ao22 t688.length co22 : Value).ownBlock ∧ some k_ ≠ (.slice Ao32 t702.length co32 : Value).ownBlock)) (by (with_reducible repeat first | apply Kd.R_alloc | apply Kd.R_drewN | apply Kd.R_drew); exact Kd.R_mono HO693.out (fun _ hk => ⟨⟨hk.1, hk.2.2⟩, hk.2.1⟩)) hg hat)
   replace HO704 := zA (Kd.R_after (ok := (fun k_ => some k_ ≠ (.slice Ao22 t688.length co22 : Value).ownBlock ∧ some k_ ≠ (.slice Ao23 t691.length co23 : Value).ownBlock)) (by (with_reducible repeat first | apply Kd.R_alloc | apply Kd.R_drewN | apply Kd.R_drew); exact Kd.R_mono HO704.out (fun _ hk => ⟨⟨hk.1, hk.2.1⟩, hk.2.2⟩)) hg hat)
   replace HB := zA (hb)
   have HO707 := zA (ho)
   clear HO697 ho hb hg hat
   refine hK.out _ _ trivial (fun hHeld => ?_)
   clear hK K
   refine qn_ 32 ?_
   refine qo_ 9 36 (fun K hK => ?_)
   refine goes_ Try.func46 (by kernel_rfl) rfl #[.slice A26 y708.length c26] (by rfl) rfl rfl zz17 ?_
   with_reducible refine (impl_TestsRun.calls k _ _ y708 t712 _ ?side1 ?side2 A15.out).mono ?_
   (case side1 => rw [Ny708.out, KA26.out]; exact Kd.C_drop (m := ((ji8) : Int).toNat) (c := co19) ((Kd.R_reads' (HO687.out)).2.2) KL26.out ((Kd.R_reads' (HO687.out)).2.1))
   (case side2 => exact HC711.out)
   rintro e w33 ⟨v713, rfl, ho0, hb⟩
   refine ⟨_, rfl, ?_⟩
   replace HO687 := zA (zz33 HO687.out)
   have HO714 := zA (Kd.R_lower (Kd.R_new' (Kd.R_new' (Kd.R_new' (Kd.R_new' ho0 (Kd.R_lt (zz22 HO690.out))) (Kd.R_lt (zz22 HO693.out))) (Kd.R_lt (zz22 HO704.out))) (Kd.R_lt (zz22 HO707.out))) (below_size zz56))
   replace HO690 := zA (zz44 HO690.out ho0)
   replace HO693 := zA (zz44 HO693.out ho0)
   replace HO704 := zA (zz44 HO704.out ho0)
   replace HO707 := zA (zz44 HO707.out ho0)
   replace HB := zA zz4
   (try clear hb)
   (try clear hb2)
   (try clear hk)
   (try clear hi)
   (try clear ho0)
   obtain ⟨Ao35, co35, eo35⟩ := Kd.R_slice HO714.out
   (first | subst eo35 | (injection eo35 with f1_ f2_ f3_; have f4_ := f1_.symm; have f5_ := f3_.symm; clear f1_ f2_ f3_; subst f4_; subst f5_))
   refine hK.out _ _ trivial (fun hHeld => ?_)
   clear hK K
   refine qn_ 36 ?_
   refine qo_ 10 37 (fun K hK => ?_)
   refine Kd.R_append_rows_step Kd.string (w0 := w) w.heap.size (by rfl) (.tmp 32) (.tmp 36) 31 9 (.string ⟨#[]⟩) 16 rfl Try.underlying31 info9 rfl (by decide) (by omega) v706 y705 t712 _ _ _ (fun k_ => some k_ ≠ (.slice Ao22 t688.length co22 : Value).ownBlock ∧ some k_ ≠ (.slice Ao23 t691.length co23 : Value).ownBlock ∧ some k_ ≠ (.slice Ao32 t702.length co32 : Value).ownBlock ∧ some k_ ≠ (.slice Ao35 t712.length co35 : Value).ownBlock) (fun _ => False) rfl rfl ?aO ?aR (fun _ _ h => h) (fun _ h => h.elim) ?aF ?aB ?aS ?aL ?_
   (case aR => exact (zz20 HO714.out))
   (case aB => exact zz25)
   (case aF => exact (fun k_ hk => ⟨Kd.fresh' (Kd.R_lt (zz22 HO690.out)) k_ hk, Kd.fresh' (Kd.R_lt (zz22 HO693.out)) k_ hk, Kd.fresh' (Kd.R_lt (zz22 HO704.out)) k_ hk, Kd.fresh' (Kd.R_lt (zz22 HO714.out)) k_ hk⟩))
   (case aO => exact (by (with_reducible repeat first | apply Kd.R_alloc | apply Kd.R_drewN | apply Kd.R_drew); exact Kd.R_mono HO707.out (fun _ hk => ⟨hk.1.1, ⟨hk.1.2.1, ⟨hk.1.2.2, hk.2⟩⟩⟩)))
   (case aS => exact zz27)
   (case aL => have := LMc16.out; omega)
   intro v716 w34 ho hb hg hat
   rw [← Ny715.out] at ho
   replace HO687 := zA (zz176 HO687.out HO707.out)
   replace HO690 := zA (Kd.R_after (ok := (fun k_ => some k_ ≠ (.slice Ao23 t691.length co23 : Value).ownBlock ∧ some k_ ≠ (.slice Ao32 t702.length co32 : Value).ownBlock ∧ some k_ ≠ (.slice Ao35 t712.length co35 : Value).ownBlock)) (by (with_reducible repeat first | apply Kd.R_alloc | apply Kd.R_drewN | apply Kd.R_drew); exact Kd.R_mono HO690.out (fun _ hk => ⟨⟨hk.1.1.1, ⟨hk.1.1.2, hk.2⟩⟩, hk.1.2⟩)) hg hat)
   replace HO693 := zA (Kd.R_after (ok := (fun k_ => some k_ ≠ (.slice Ao22 t688.length co22 : Value).ownBlock ∧ some k_ ≠ (.slice Ao32 t702.length co32 : Value).ownBlock ∧ some k_ ≠ (.slice Ao35 t712.length co35 : Value).ownBlock)) (by (with_reducible repeat first | apply Kd.R_alloc | apply Kd.R_drewN | apply Kd.R_drew); exact Kd.R_mono HO693.out (fun _ hk => ⟨⟨hk.1.1.1, ⟨hk.1.1.2, hk.2⟩⟩, hk.1.2⟩)) hg hat)
   replace HO704 := zA (Kd.R_after (ok := (fun k_ => some k_ ≠ (.slice Ao22 t688.length co22 : Value).ownBlock ∧ some k_ ≠ (.slice Ao23 t691.length co23 : Value).ownBlock ∧ some k_ ≠ (.slice Ao35 t712.length co35 : Value).ownBlock)) (by (with_reducible repeat first | apply Kd.R_alloc | apply Kd.R_drewN | apply Kd.R_drew); exact Kd.R_mono HO704.out (fun _ hk => ⟨⟨hk.1.1.1, ⟨hk.1.1.2, hk.2⟩⟩, hk.1.2⟩)) hg hat)
   replace HO714 := zA (Kd.R_after (ok := (fun k_ => some k_ ≠ (.slice Ao22 t688.length co22 : Value).ownBlock ∧ some k_ ≠ (.slice Ao23 t691.length co23 : Value).ownBlock ∧ some k_ ≠ (.slice Ao32 t702.length co32 : Value).ownBlock)) (by (with_reducible repeat first | apply Kd.R_alloc | apply Kd.R_drewN | apply Kd.R_drew); exact Kd.R_mono HO714.out (fun _ hk => ⟨⟨hk.1.1.1.2, ⟨hk.1.1.2, hk.1.2⟩⟩, hk.2⟩)) hg hat)
   replace HB := zA (hb)
   have HO717 := zA (ho)
   clear HO707 ho hb hg hat
   obtain ⟨Ao36, co36, eo36⟩ := Kd.R_slice HO717.out
   (first | subst eo36 | (injection eo36 with f1_ f2_ f3_; have f4_ := f1_.symm; have f5_ := f3_.symm; clear f1_ f2_ f3_; subst f4_; subst f5_))
   refine hK.out _ _ trivial (fun hHeld => ?_)
   clear hK K
   refine qn_ 37 ?_
   refine qo_ 12 39 (fun K hK => ?_)
   refine goes_ Try.func47 (by kernel_rfl) rfl #[.slice Ao36 y715.length co36, .slice Ao22 t688.length co22] (by rfl) rfl rfl zz17 ?_
   with_reducible refine (laws_equalTexts.calls k _ _ y715 _ _ t688 t718 _ ?side1 ?side2 ?side3 ?side4 A17.out).mono ?_
   (case side1 => exact (zz20 HO717.out))
   (case side2 => exact (zz21 HO717.out))
   (case side3 => exact (zz20 HO690.out))
   (case side4 => exact (zz21 HO690.out))
   rintro e w' ⟨rfl, ⟨nd, rfl⟩⟩
   refine ⟨_, rfl, ?_⟩
   refine hK.out _ _ trivial (fun hHeld => ?_)
   clear hK K
   refine qn_ 39 ?_
   refine qp_ 13 2 ?_
   refine qd_ ?_
   try go_wp2
   go_ret
   exact ⟨(zz16 hji8), zz23⟩
  ·replace c7 := Bool.eq_false_iff.mpr c7
   subst c7
   have H1 : ((spec_TestsRun.f k t685).bind fun t719 => ((laws_equalTexts.f k t688 t719).bind fun t722 => (some t722))) = some r := by rw [if_neg (show ¬ (false = true) by decide)] at H; exact H
   clear H; have H := H1; clear H1
   obtain ⟨t719, A37, H⟩ := bs_ H
   (try dsimp only at H)
   obtain ⟨t722, A38, H⟩ := bs_ H
   (try dsimp only at H)
   obtain rfl := Option.some.inj H
   go_enter Try.func10, Try.ntmps10
   go_wp2_with (first | ((with_reducible refine gate_callee (f := 45) rfl ?_); refine goesL_ (some 10) rfl rfl Try.func45 (by kernel_rfl) rfl #[.slice A0 l0.length c0] rfl zz17 ?_; (with_reducible refine (spec_DrawTestsRun.calls k _ _ l0 t685 _ ?side1 ?side2 A3.out).mono ?_); (case side1 => exact (zz135 HR0.out)); (case side2 => exact HC0.out); rintro e w39 ⟨v686, rfl, ho0, hb⟩; refine ⟨_, rfl, ?_⟩; have HO687 := zA (zz39 ho0); replace HB := zA zz4; (try clear hb); (try clear ho0); obtain ⟨Ao40, co40, eo40⟩ := Kd.R_slice HO687.out; subst eo40) | ((with_reducible refine gate_callee (f := 46) rfl ?_); refine goesL_ (some 12) rfl rfl Try.func46 (by kernel_rfl) rfl #[.slice Ao40 t685.length co40] rfl zz17 ?_; (with_reducible refine (impl_TestsRun.calls k _ _ t685 t688 _ ?side1 ?side2 A4.out).mono ?_); (case side1 => exact (zz20 HO687.out)); (case side2 => exact (zz21 HO687.out)); rintro e w41 ⟨v689, rfl, ho0, hb⟩; refine ⟨_, rfl, ?_⟩; replace HO687 := zA (zz33 HO687.out); have HO690 := zA (zz39 ho0); replace HB := zA zz4; (try clear hb); (try clear ho0)) | ((with_reducible refine gate_callee (f := 48) rfl ?_); refine goesL_ (some 15) rfl rfl Try.func48 (by kernel_rfl) rfl #[.slice Ao40 t685.length co40] rfl zz17 ?_; (with_reducible refine (spec_TestsRun.calls k _ _ t685 t691 _ ?side1 ?side2 A5.out).mono ?_); (case side1 => exact (zz20 HO687.out)); (case side2 => exact (zz21 HO687.out)); rintro e w42 ⟨v692, rfl, ho0, hb⟩; refine ⟨_, rfl, ?_⟩; replace HO687 := zA (zz33 HO687.out); have HO693 := zA (zz43 ho0 HO690.out); replace HO690 := zA (zz44 HO690.out ho0); replace HB := zA zz4; (try clear hb); (try clear ho0); obtain ⟨Ao43, co43, eo43⟩ := Kd.R_slice HO690.out; subst eo43; obtain ⟨Ao44, co44, eo44⟩ := Kd.R_slice HO693.out; subst eo44) | ((with_reducible refine gate_callee (f := 47) rfl ?_); refine goesL_ (some 16) rfl rfl Try.func47 (by kernel_rfl) rfl #[.slice Ao43 t688.length co43, .slice Ao44 t691.length co44] rfl zz17 ?_; (with_reducible refine (laws_equalTexts.calls k _ _ t688 _ _ t691 false _ ?side1 ?side2 ?side3 ?side4 A6.out).mono ?_); (case side1 => exact (zz20 HO690.out)); (case side2 => exact (zz21 HO690.out)); (case side3 => exact (zz20 HO693.out)); (case side4 => exact (zz21 HO693.out)); rintro e w' ⟨rfl, ⟨nd, rfl⟩⟩; refine ⟨_, rfl, ?_⟩) | ((with_reducible refine gate_callee (f := 48) rfl ?_); refine goesL_ (some 22) rfl rfl Try.func48 (by kernel_rfl) rfl #[.slice Ao40 t685.length co40] rfl zz17 ?_; (with_reducible refine (spec_TestsRun.calls k _ _ t685 t719 _ ?side1 ?side2 A37.out).mono ?_); (case side1 => exact (zz20 HO687.out)); (case side2 => exact (zz21 HO687.out)); rintro e w45 ⟨v720, rfl, ho0, hb⟩; refine ⟨_, rfl, ?_⟩; replace HO687 := zA (zz33 HO687.out); have HO721 := zA (zz51 ho0 HO690.out HO693.out); replace HO690 := zA (zz44 HO690.out ho0); replace HO693 := zA (zz44 HO693.out ho0); replace HB := zA zz4; (try clear hb); (try clear ho0); obtain ⟨Ao46, co46, eo46⟩ := Kd.R_slice HO721.out; subst eo46) | ((with_reducible refine gate_callee (f := 47) rfl ?_); refine goesL_ (some 23) rfl rfl Try.func47 (by kernel_rfl) rfl #[.slice Ao43 t688.length co43, .slice Ao46 t719.length co46] rfl zz17 ?_; (with_reducible refine (laws_equalTexts.calls k _ _ t688 _ _ t719 t722 _ ?side1 ?side2 ?side3 ?side4 A38.out).mono ?_); (case side1 => exact (zz20 HO690.out)); (case side2 => exact (zz21 HO690.out)); (case side3 => exact (zz20 HO721.out)); (case side4 => exact (zz21 HO721.out)); rintro e w' ⟨rfl, ⟨nd, rfl⟩⟩; refine ⟨_, rfl, ?_⟩))
   go_ret
   exact ⟨zz14, zz23⟩

/-- THE ONE PURE STATEMENT of laws_FnTestsRun: yours. -/
def laws_FnTestsRun.Pure : Prop := ∀ (l0 : List Int), l0.length ≤ maxLen → l0.length * 1 ≤ 140737488351232 → (∀ x ∈ l0, (Lit.int .u8 x).wf = true) → ∃ k, laws_FnTestsRun.f k l0 = some true
theorem laws_FnTestsRun.walk (P : laws_FnTestsRun.Pure) (a0 : Option Addr) (len0 cap0 : Nat) (z0 : List Int) (w : World) (w0 : (a0 = none ∧ len0 = 0 ∧ cap0 = 0 ∧ z0 = []) ∨ ∃ x, a0 = some x ∧ len0 ≤ cap0 ∧ cap0 ≤ maxLen ∧ z0.length = cap0 ∧ (∀ i, i < z0.length → w.cell? (x.add i) = some (.int .u8 (z0.getD i 0))) ∧ ∀ n ∈ z0, (Lit.int .u8 n).wf = true) (y0 : len0 * 1 ≤ 140737488351232) :
  Calls Try.prog 10 #[.slice a0 len0 cap0] w fun e w' => e = .returned (.bool true) ∧ Below w.heap.size w w' := by
 obtain ⟨l0, rfl, hr0, hm0, hw0, hc0⟩ := ReadsInt.ofRowC w0
 obtain ⟨k, h⟩ := P l0 hm0 y0 hw0
 refine (laws_FnTestsRun.calls k _ _ l0 true w (Kd.C_of_reads (d := (0 : Int)) (h1 := fun _ => rfl) hr0) hc0 h).mono ?_
 rintro e w' ⟨rfl, hd⟩
 exact ⟨rfl, hd⟩

end Go.Proofs.Ytieghkchhjailaa.S
