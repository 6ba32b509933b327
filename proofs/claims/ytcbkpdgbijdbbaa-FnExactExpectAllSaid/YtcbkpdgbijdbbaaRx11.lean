-- WRITTEN by wip/ext.py
import Derived.Test.YtcbkpdgbijdbbaaRx0
import Derived.Test.YtcbkpdgbijdbbaaRx2
import Derived.Test.YtcbkpdgbijdbbaaRx5
import Derived.Test.YtcbkpdgbijdbbaaRx6
import Derived.Test.YtcbkpdgbijdbbaaRx7
import Derived.Test.YtcbkpdgbijdbbaaRx8
import Derived.Test.YtcbkpdgbijdbbaaRx9
import Derived.Test.YtcbkpdgbijdbbaaRx10
namespace Go.Proofs.Ytcbkpdgbijdbbaa.R
open Go.RowKit Go.Proofs.YtcbkpdgbijdbbaaW.PrintWords Go.Proofs.YtcbkpdgbijdbbaaW.PrintLast Go.Proofs.YtcbkpdgbijdbbaaW.PrintMore
attribute [local go_sem] max2_int min2_int max_two min_two max_three min_three max_four min_four   -- for this text's walks alone
set_option linter.unusedVariables false
set_option linter.unusedSimpArgs false

/-! ### laws_FnExactExpectAll: function 6 -/
def CCase_ (n : Nat) (A B : Prop) : Prop := (0 < n → A) ∧ (n = 0 → B)
theorem set_set_ {α : Type} (l : List α) (i : Nat) (x y : α) : (l.set i x).set i y = l.set i y := by simp
theorem set_get_ {α : Type} (l : List α) (i : Nat) (h : i < l.length) : l.set i l[i] = l := List.set_getElem_self h
theorem getD_set_ {α : Type} (l : List α) (i : Nat) (x z : α) (h : i < l.length) : (l.set i x).getD i z = x := by simp [List.getD_eq_getElem?_getD, List.getElem?_set_self h]
theorem drop_set_ {α : Type} (l : List α) (i : Nat) (x : α) : (l.set i x).drop (i + 1) = l.drop (i + 1) := by
 apply List.ext_getElem?
 intro j
 rw [List.getElem?_drop, List.getElem?_drop, List.getElem?_set_ne (by omega)]
theorem take_set_ {α : Type} (l : List α) (i : Nat) (x : α) (h : i < l.length) : (l.set i x).take (i + 1) = l.take i ++ [x] := by
 rw [List.take_succ_eq_append_getElem (by simpa using h), List.getElem_set_self]
 congr 1
 apply List.ext_getElem?
 intro j
 rw [List.getElem?_take, List.getElem?_take]
 split
 ·rw [List.getElem?_set_ne (by omega)]
 ·rfl
structure CExpect (base : Nat) (ok : Nat → Prop) (g cap : Nat) (w0 wS W : World) (cur : List S73) : Prop where
 row : Kd.S k73 73 W base ok (.slice (some ⟨g, 0, none⟩) cur.length cap) cur
 bel : Below w0.heap.size w0 W
 kept : Kept wS W ok
 low : w0.heap.size ≤ base
theorem CExpect.below {base g cap : Nat} {ok : Nat → Prop} {cur : List S73} {w0 wS W : World} (h : CExpect base ok g cap w0 wS W cur) {W' : World} (hb : Below W.heap.size W W') : CExpect base ok g cap w0 wS W' cur := ⟨Kd.S_below h.row hb, below_step h.bel hb, h.kept.below hb, h.low⟩
theorem CExpect.own {base g cap : Nat} {ok : Nat → Prop} {cur : List S73} {w0 wS W : World} (h : CExpect base ok g cap w0 wS W cur) : ok g ∧ base ≤ g := ⟨(Kd.S_R h.row).1 g (by simp [Value.ownBlock]), Kd.S_base h.row g (by simp [Value.ownBlock])⟩
theorem CExpect.elem {base g cap : Nat} {ok : Nat → Prop} {cur : List S73} {w0 wS W : World} (i : Nat) (y : S73) (h : CExpect base ok g cap w0 wS W (cur.set i y)) (hi : i < cur.length) :
  ∃ (oki : Nat → Prop) (v1 : Value), (Kd.int .i64).R 3 W base oki v1 y.f1 ∧ (∀ j u, ([.string y.f0, v1, .bool y.f2, .int .i64 y.f3, .int .i64 y.f4] : List Value)[j]? = some u → W.cell? ⟨g, i * 5 + j, none⟩ = some u) ∧ (∀ j, W.frozen? ⟨g, i * 5 + j, none⟩ = false) ∧ (∀ k, oki k → ok k) ∧ Kd.H k73 73 W base ok (.slice (some ⟨g, 0, none⟩) (cur.set i y).length cap) (cur.set i y) (i : Int) oki [.string y.f0, v1, .bool y.f2, .int .i64 y.f3, .int .i64 y.f4] := by
 have hl : (cur.set i y).length = cur.length := List.length_set
 obtain ⟨oki, c, hcl, hM, hcc, hfr, hok, hH⟩ := Kd.S_elem h.row z73 (i : Int) (by omega) (by omega)
 rw [Int.toNat_natCast] at hcc hfr hM
 rw [getD_set_ _ _ _ _ hi] at hM
 obtain ⟨v1, rfl, g1⟩ := k73_openM hM
 exact ⟨oki, v1, g1,  hcc, hfr, fun k hk => (hok k hk).1, hH⟩
theorem CExpect.set0 {base g cap : Nat} {ok : Nat → Prop} {cur : List S73} {w0 wS W : World} {i : Nat} {y : S73} (h : CExpect base ok g cap w0 wS W (cur.set i y)) (hi : i < cur.length) (b : ByteArray) : CExpect base ok g cap w0 wS (W.setCell ⟨g, i * 5 + 0, none⟩ (Value.string b)) (cur.set i { y with f0 := b }) := by
 have hl : (cur.set i y).length = cur.length := List.length_set
 obtain ⟨oki, v1, g1,  hcc, hfr, hok, hH⟩ := CExpect.elem i y h hi
 obtain ⟨h2, h3⟩ := Kd.S_seg0 hH (by omega) (by omega) (seg := [Value.string b]) (j := 0) (by show 0 + 1 ≤ 5; decide) (x' := { y with f0 := b }) (okp := oki) (k73_mkM W base oki _ g1) (fun _ hk => hk)
 rw [Int.toNat_natCast, set_set_] at h2
 have hlen : (cur.set i { y with f0 := b }).length = (cur.set i y).length := by rw [List.length_set, List.length_set]
 refine ⟨by rw [hlen]; exact h2, below_set h.bel (Nat.le_trans h.low h.own.2), h.kept.setCell (.inl h.own.1) _, h.low⟩
theorem CExpect.at0 {base g cap : Nat} {ok : Nat → Prop} {cur : List S73} {w0 wS W : World} {i : Nat} {y : S73} (h : CExpect base ok g cap w0 wS W (cur.set i y)) (hi : i < cur.length) : (∃ u, W.cell? ⟨g, i * 5, none⟩ = some (Value.string u)) ∧ W.frozen? ⟨g, i * 5, none⟩ = false := by
 obtain ⟨oki, v1, g1,  hcc, hfr, hok, hH⟩ := CExpect.elem i y h hi
 exact ⟨⟨_, hcc 0 _ rfl⟩, hfr 0⟩
theorem CExpect.set2 {base g cap : Nat} {ok : Nat → Prop} {cur : List S73} {w0 wS W : World} {i : Nat} {y : S73} (h : CExpect base ok g cap w0 wS W (cur.set i y)) (hi : i < cur.length) (b : Bool) : CExpect base ok g cap w0 wS (W.setCell ⟨g, i * 5 + 2, none⟩ (Value.bool b)) (cur.set i { y with f2 := b }) := by
 have hl : (cur.set i y).length = cur.length := List.length_set
 obtain ⟨oki, v1, g1,  hcc, hfr, hok, hH⟩ := CExpect.elem i y h hi
 obtain ⟨h2, h3⟩ := Kd.S_seg0 hH (by omega) (by omega) (seg := [Value.bool b]) (j := 2) (by show 2 + 1 ≤ 5; decide) (x' := { y with f2 := b }) (okp := oki) (k73_mkM W base oki _ g1) (fun _ hk => hk)
 rw [Int.toNat_natCast, set_set_] at h2
 have hlen : (cur.set i { y with f2 := b }).length = (cur.set i y).length := by rw [List.length_set, List.length_set]
 refine ⟨by rw [hlen]; exact h2, below_set h.bel (Nat.le_trans h.low h.own.2), h.kept.setCell (.inl h.own.1) _, h.low⟩
theorem CExpect.at2 {base g cap : Nat} {ok : Nat → Prop} {cur : List S73} {w0 wS W : World} {i : Nat} {y : S73} (h : CExpect base ok g cap w0 wS W (cur.set i y)) (hi : i < cur.length) : (∃ u, W.cell? ⟨g, i * 5 + 2, none⟩ = some (Value.bool u)) ∧ W.frozen? ⟨g, i * 5 + 2, none⟩ = false := by
 obtain ⟨oki, v1, g1,  hcc, hfr, hok, hH⟩ := CExpect.elem i y h hi
 exact ⟨⟨_, hcc 2 _ rfl⟩, hfr 2⟩
theorem CExpect.set3 {base g cap : Nat} {ok : Nat → Prop} {cur : List S73} {w0 wS W : World} {i : Nat} {y : S73} (h : CExpect base ok g cap w0 wS W (cur.set i y)) (hi : i < cur.length) (b : Int) : CExpect base ok g cap w0 wS (W.setCell ⟨g, i * 5 + 3, none⟩ (Value.int .i64 b)) (cur.set i { y with f3 := b }) := by
 have hl : (cur.set i y).length = cur.length := List.length_set
 obtain ⟨oki, v1, g1,  hcc, hfr, hok, hH⟩ := CExpect.elem i y h hi
 obtain ⟨h2, h3⟩ := Kd.S_seg0 hH (by omega) (by omega) (seg := [Value.int .i64 b]) (j := 3) (by show 3 + 1 ≤ 5; decide) (x' := { y with f3 := b }) (okp := oki) (k73_mkM W base oki _ g1) (fun _ hk => hk)
 rw [Int.toNat_natCast, set_set_] at h2
 have hlen : (cur.set i { y with f3 := b }).length = (cur.set i y).length := by rw [List.length_set, List.length_set]
 refine ⟨by rw [hlen]; exact h2, below_set h.bel (Nat.le_trans h.low h.own.2), h.kept.setCell (.inl h.own.1) _, h.low⟩
theorem CExpect.at3 {base g cap : Nat} {ok : Nat → Prop} {cur : List S73} {w0 wS W : World} {i : Nat} {y : S73} (h : CExpect base ok g cap w0 wS W (cur.set i y)) (hi : i < cur.length) : (∃ u, W.cell? ⟨g, i * 5 + 3, none⟩ = some (Value.int .i64 u)) ∧ W.frozen? ⟨g, i * 5 + 3, none⟩ = false := by
 obtain ⟨oki, v1, g1,  hcc, hfr, hok, hH⟩ := CExpect.elem i y h hi
 exact ⟨⟨_, hcc 3 _ rfl⟩, hfr 3⟩
theorem CExpect.set4 {base g cap : Nat} {ok : Nat → Prop} {cur : List S73} {w0 wS W : World} {i : Nat} {y : S73} (h : CExpect base ok g cap w0 wS W (cur.set i y)) (hi : i < cur.length) (b : Int) : CExpect base ok g cap w0 wS (W.setCell ⟨g, i * 5 + 4, none⟩ (Value.int .i64 b)) (cur.set i { y with f4 := b }) := by
 have hl : (cur.set i y).length = cur.length := List.length_set
 obtain ⟨oki, v1, g1,  hcc, hfr, hok, hH⟩ := CExpect.elem i y h hi
 obtain ⟨h2, h3⟩ := Kd.S_seg0 hH (by omega) (by omega) (seg := [Value.int .i64 b]) (j := 4) (by show 4 + 1 ≤ 5; decide) (x' := { y with f4 := b }) (okp := oki) (k73_mkM W base oki _ g1) (fun _ hk => hk)
 rw [Int.toNat_natCast, set_set_] at h2
 have hlen : (cur.set i { y with f4 := b }).length = (cur.set i y).length := by rw [List.length_set, List.length_set]
 refine ⟨by rw [hlen]; exact h2, below_set h.bel (Nat.le_trans h.low h.own.2), h.kept.setCell (.inl h.own.1) _, h.low⟩
theorem CExpect.at4 {base g cap : Nat} {ok : Nat → Prop} {cur : List S73} {w0 wS W : World} {i : Nat} {y : S73} (h : CExpect base ok g cap w0 wS W (cur.set i y)) (hi : i < cur.length) : (∃ u, W.cell? ⟨g, i * 5 + 4, none⟩ = some (Value.int .i64 u)) ∧ W.frozen? ⟨g, i * 5 + 4, none⟩ = false := by
 obtain ⟨oki, v1, g1,  hcc, hfr, hok, hH⟩ := CExpect.elem i y h hi
 exact ⟨⟨_, hcc 4 _ rfl⟩, hfr 4⟩
theorem CExpect.row1 {base g cap : Nat} {ok : Nat → Prop} {cur : List S73} {w0 wS W : World} {i : Nat} {y : S73} (h : CExpect base ok g cap w0 wS W (cur.set i y)) (hi : i < cur.length) :
  ∃ (vr : Value) (oki : Nat → Prop), W.cell? ⟨g, i * 5 + 1, none⟩ = some vr ∧ (Kd.int .i64).R 3 W w0.heap.size oki vr y.f1 ∧ (∀ k, oki k → ok k) ∧
   ∀ (W' : World) (r2 : List Int), (Kd.int .i64).R 3 W' w0.heap.size (fun k_ => oki k_ ∨ W.heap.size ≤ k_) vr r2 → Below w0.heap.size w0 W' → Kept W W' (fun k_ => oki k_) → CExpect base ok g cap w0 wS W' (cur.set i { y with f1 := r2 }) := by
 have hl : (cur.set i y).length = cur.length := List.length_set
 obtain ⟨oki, v1, g1,  hcc, hfr, hok, hH⟩ := CExpect.elem i y h hi
 refine ⟨v1, oki, hcc 1 _ rfl, Kd.R_lower g1 h.low, hok, fun W' r2 hr hb hk => ?_⟩
 have hr2 := Kd.R_reok (d := (Kd.int .i64)) rfl (Kd.R_raise (d := (Kd.int .i64)) (b := w0.heap.size) (b' := base) (fun _ _ _ _ h_ => h_) hr (Kd.R_base g1)) (g1.1)
 have h2 := Kd.H_back (Kd.H_kept hH hk (fun _ _ hn => hn)) (x' := { y with f1 := r2 }) (okp := oki) (k73_mkM W' base oki _ hr2) (fun _ hk => hk)
 rw [Int.toNat_natCast, set_set_] at h2
 have hlen : (cur.set i { y with f1 := r2 }).length = (cur.set i y).length := by rw [List.length_set, List.length_set]
 exact ⟨by rw [hlen]; exact h2, hb, h.kept.then_ hk (fun k hk' => .inl (hok k hk')), h.low⟩
def laws_markExpectS.g : Nat → List S73 → Int → Option (Int × List S73)
 | _, [], a => some (a, [])
 | k, x :: t, a => (laws_markText.f k (a)).bind fun t0 => (laws_markIntS.f k x.f1 (wrap64 (a + 1))).bind fun p1 => (laws_markExpectS.g k t (wrap64 (wrap64 (wrap64 (p1.1 + 1) + 1) + 1))).bind fun q => some (q.1, (⟨t0, p1.2, decide (Int.tmod (p1.1) 3 = 0), wrap64 (p1.1 + 1), wrap64 (wrap64 (p1.1 + 1) + 1)⟩ : S73) :: q.2)
theorem laws_markExpectS.g_mono (k : Nat) : ∀ t a, LeO (laws_markExpectS.g k t a) (laws_markExpectS.g (k + 1) t a)
 | [], a => LeO.refl _
 | x :: t, a => LeO.bind (laws_markText.mono _ _) (fun _ => LeO.bind (laws_markIntS.mono _ _ _) (fun _ => LeO.bind (laws_markExpectS.g_mono k t _) (fun _ => LeO.refl _)))
set_option maxHeartbeats 8000000 in
set_option maxRecDepth 100000 in
theorem laws_markExpectS.walkC (k : Nat) (A : Option Addr) (g cap : Nat) (l0 : List S73) (a1 r1 : Int) (L' : List S73) (base : Nat) (ok : Nat → Prop) (w0 w : World) (hA : 0 < l0.length → A = some ⟨g, 0, none⟩ ∧ CExpect base ok g cap w0 w w l0) (hB : Below w0.heap.size w0 w) (hn : l0.length ≤ 9223372036854775807) (h : laws_markExpectS.g k l0 a1 = some (r1, L')) :
  Calls Try.prog 31 #[.slice A l0.length cap, .int .i64 a1] w fun e w' => e = .returned (.int .i64 r1) ∧ CCase_ l0.length (CExpect base ok g cap w0 w w' L' ∧ L'.length = l0.length) (w' = w ∧ L' = []) := by
 have HA := Aside0.mk hA
 have H := Aside0.mk h
 clear hA h
 go_enter Try.func31, Try.ntmps31
 go_wp2
 go_loopg [1, 5] l0.length (fun gg v1 v5 wr => ∃ (x1 x5 : Int) (m : Nat) (cur rest : List S73), v1 = .int .i64 x1 ∧ v5 = .int .i64 x5 ∧ Aside0 (0 ≤ x5 ∧ x5.toNat + m = l0.length) ∧ m ≤ gg ∧ Aside0 (laws_markExpectS.g k (cur.drop x5.toNat) x1 = some (r1, rest) ∧ cur.take x5.toNat ++ rest = L' ∧ cur.length = l0.length) ∧ Aside0 (CCase_ l0.length (CExpect base ok g cap w0 w wr cur) (wr = w)))
 case atStart => exact ⟨a1, 0, l0.length, l0, L', rfl, rfl, ⟨by decide, by simp⟩, Nat.le_refl _, ⟨H.out, rfl, rfl⟩, ⟨⟨fun hp => (HA.out hp).2, fun _ => rfl⟩⟩⟩
 case round =>
  clear H
  obtain ⟨x1, x5, m, cur, rest, rfl, rfl, HM, hg, H, MV⟩ := hrel
  cases m with
  | zero =>
   have c3b0 : decide (x5 < (l0.length : Int)) = false := decide_eq_false (by have := HM.out; omega)
   obtain ⟨hr, hL, hl⟩ := H.out
   rw [List.drop_of_length_le (by have := HM.out; omega)] at hr
   rw [List.take_of_length_le (by have := HM.out; omega)] at hL
   unfold laws_markExpectS.g at hr
   injection hr with hr
   injection hr with hr1 hr2
   subst hr1
   subst hr2
   rw [List.append_nil] at hL
   subst hL
   clear H hg
   go_wp2
   go_ret
   refine ⟨rfl, ?_⟩
   exact ⟨fun hp => ⟨MV.out.1 hp, hl⟩, fun hp => ⟨MV.out.2 hp, List.eq_nil_of_length_eq_zero (by omega)⟩⟩
  | succ m =>
   have c3b0 : decide (x5 < (l0.length : Int)) = true := decide_eq_true (by have := HM.out; omega)
   have p6 : (0 ≤ x5) = True := eq_true HM.out.1
   have q6 : (x5 < (l0.length : Int)) = True := eq_true (by have := HM.out; omega)
   obtain ⟨hr, hL, hl⟩ := H.out
   have HLT := Aside0.mk (show x5.toNat < cur.length by have := HM.out; omega)
   have hp0 : 0 < l0.length := by have := HM.out; omega
   have HL := Aside0.mk hl
   obtain ⟨x, hx⟩ : ∃ x, x = cur[x5.toNat]'HLT.out := ⟨_, rfl⟩
   have HX := Aside0.mk hx
   rw [List.drop_eq_getElem_cons HLT.out, ← hx] at hr
   have hmv := MV.out.1 hp0
   rw [← set_get_ cur x5.toNat HLT.out, ← hx] at hmv
   clear MV
   have MV := Aside0.mk hmv
   clear hx H hmv hl
   have HTK := Aside0.mk hL
   clear hL
   unfold laws_markExpectS.g at hr
   obtain ⟨t0, A00, hr⟩ := Option.bind_eq_some_iff.mp hr
   have A0 := Aside0.mk A00
   clear A00
   obtain ⟨p1, A10, hr⟩ := Option.bind_eq_some_iff.mp hr
   have A1 := Aside0.mk A10
   clear A10
   obtain ⟨q, Aq0, hr⟩ := Option.bind_eq_some_iff.mp hr
   injection hr with hr
   injection hr with hr1 hr2
   have H := Aside0.mk (⟨hr1, hr2, Aq0⟩ : _ ∧ _ ∧ _)
   clear hr1 hr2 Aq0
   have eA := (HA.out hp0).1
   subst eA
   have HP := Aside0.mk hp0
   clear hp0
   go_wp2_with (first | ((with_reducible refine gate_callee (f := 68) rfl ?_); refine goesL_ (some 15) rfl rfl Try.func68 (by kernel_rfl) rfl #[.int .i64 (x1)] rfl (by (try simp only [List.map_toArray, List.map_cons, List.map_nil]); first | done | rfl) ?_; (with_reducible refine (laws_markText.calls k (x1) t0 _ A0.out).mono ?_); rintro e w1 ⟨rfl, hb⟩; refine ⟨_, rfl, ?_⟩; replace MV := Aside0.mk (MV.out.below hb); clear hb; obtain ⟨⟨s0_, hx0_⟩, hf0_⟩ := MV.out.at0 HLT.out) | ((with_reducible refine gate_store (t := 9) (p := 17) rfl ?_); refine store_event (t := 9) (p := 17) (v := ?vo_w2) (w1 := (w1.setCell ⟨g, (x5 : Int).toNat * 5, none⟩ (.string t0))) ?hg ?ho ?hn ?hr ?_; (case ho => rfl); (case hg => rfl); (case hn => rfl); (case hr => first | (go_simp; done) | (go_simp; rfl)); intro w2 hw; replace MV := Aside0.mk (show CExpect base ok g cap w0 w w2 (cur.set x5.toNat (⟨t0, x.f1, x.f2, x.f3, x.f4⟩ : S73)) by rw [hw]; exact MV.out.set0 HLT.out _); clear hw; obtain ⟨v1_, oki1_, hx1_, hR1_, _, hput1_⟩ := MV.out.row1 HLT.out) | ((with_reducible refine gate_callee (f := 37) rfl ?_); refine goesL_ (some 26) rfl rfl Try.func37 (by kernel_rfl) rfl #[v1_, .int .i64 (wrap64 (x1 + 1))] rfl (by (try simp only [List.map_toArray, List.map_cons, List.map_nil]); first | done | rfl) ?_; refine (laws_markIntS.calls k oki1_ v1_ x.f1 (wrap64 (x1 + 1)) p1.1 p1.2 w0 _ MV.out.bel hR1_ A1.out).mono ?_; rintro e w3 ⟨rfl, hr2_, hb2_, hk2_⟩; refine ⟨_, rfl, ?_⟩; replace MV := Aside0.mk (show CExpect base ok g cap w0 w w3 (cur.set x5.toNat (⟨t0, p1.2, x.f2, x.f3, x.f4⟩ : S73)) from hput1_ _ _ hr2_ hb2_ hk2_); clear hr2_ hb2_ hk2_ hput1_ hR1_; obtain ⟨⟨s2_, hx2_⟩, hf2_⟩ := MV.out.at2 HLT.out) | ((with_reducible refine gate_store (t := 4) (p := 33) rfl ?_); refine store_event (t := 4) (p := 33) (v := ?vo_w4) (w1 := (w3.setCell ⟨g, (x5 : Int).toNat * 5 + 2, none⟩ (.bool (decide (Int.tmod (p1.1) 3 = 0))))) ?hg ?ho ?hn ?hr ?_; (case ho => rfl); (case hg => rfl); (case hn => rfl); (case hr => first | (go_simp; done) | (go_simp; rfl)); intro w4 hw; replace MV := Aside0.mk (show CExpect base ok g cap w0 w w4 (cur.set x5.toNat (⟨t0, p1.2, decide (Int.tmod (p1.1) 3 = 0), x.f3, x.f4⟩ : S73)) by rw [hw]; exact MV.out.set2 HLT.out _); clear hw; obtain ⟨⟨s3_, hx3_⟩, hf3_⟩ := MV.out.at3 HLT.out) | ((with_reducible refine gate_store (t := 3) (p := 40) rfl ?_); refine store_event (t := 3) (p := 40) (v := ?vo_w5) (w1 := (w4.setCell ⟨g, (x5 : Int).toNat * 5 + 3, none⟩ (.int .i64 (wrap64 (p1.1 + 1))))) ?hg ?ho ?hn ?hr ?_; (case ho => rfl); (case hg => rfl); (case hn => rfl); (case hr => first | (go_simp; done) | (go_simp; rfl)); intro w5 hw; replace MV := Aside0.mk (show CExpect base ok g cap w0 w w5 (cur.set x5.toNat (⟨t0, p1.2, decide (Int.tmod (p1.1) 3 = 0), wrap64 (p1.1 + 1), x.f4⟩ : S73)) by rw [hw]; exact MV.out.set3 HLT.out _); clear hw; obtain ⟨⟨s4_, hx4_⟩, hf4_⟩ := MV.out.at4 HLT.out) | ((with_reducible refine gate_store (t := 3) (p := 47) rfl ?_); refine store_event (t := 3) (p := 47) (v := ?vo_w6) (w1 := (w5.setCell ⟨g, (x5 : Int).toNat * 5 + 4, none⟩ (.int .i64 (wrap64 (wrap64 (p1.1 + 1) + 1))))) ?hg ?ho ?hn ?hr ?_; (case ho => rfl); (case hg => rfl); (case hn => rfl); (case hr => first | (go_simp; done) | (go_simp; rfl)); intro w6 hw; replace MV := Aside0.mk (show CExpect base ok g cap w0 w w6 (cur.set x5.toNat (⟨t0, p1.2, decide (Int.tmod (p1.1) 3 = 0), wrap64 (p1.1 + 1), wrap64 (wrap64 (p1.1 + 1) + 1)⟩ : S73)) by rw [hw]; exact MV.out.set4 HLT.out _); clear hw))
   go_roundg m
   case measure => omega
   case rel => exact ⟨(wrap64 (wrap64 (wrap64 (p1.1 + 1) + 1) + 1)), (wrap64 (x5 + 1)), m, cur.set x5.toNat (⟨t0, p1.2, decide (Int.tmod (p1.1) 3 = 0), wrap64 (p1.1 + 1), wrap64 (wrap64 (p1.1 + 1) + 1)⟩ : S73), q.2, (by first | rfl | (simp; done) | (simp [*]; done)), (by first | rfl | (simp; done) | (simp [*]; done)), ⟨by have := HM.out; rw [show wrap64 (x5 + 1) = x5 + 1 from by unfold wrap64; omega]; omega⟩, by omega, ⟨by
    have := HM.out
    rw [show (wrap64 (x5 + 1)).toNat = x5.toNat + 1 from by unfold wrap64; omega]
    obtain ⟨e1, e2, e3⟩ := H.out
    refine ⟨by rw [drop_set_ _ _ _, ← e1]; exact e3, ?_, by rw [List.length_set]; exact HL.out⟩
    rw [take_set_ _ _ _ HLT.out, List.append_assoc]
    rw [← e2] at HTK
    exact HTK.out⟩, ⟨⟨fun _ => MV.out, fun h => absurd h (by have := HP.out; omega)⟩⟩⟩
/-- .. as the laws call it: what stands in the row behind it; of what stood before only blocks in ok are turned. -/
theorem laws_markExpectS.callsC (k : Nat) (A : Option Addr) (c : Nat) (l0 : List S73) (a1 r1 : Int) (L' : List S73) (base : Nat) (ok : Nat → Prop) (w0 w : World) (hB : Below w0.heap.size w0 w) (hlow : w0.heap.size ≤ base) (ho : Kd.S k73 73 w base ok (.slice A l0.length c) l0) (h : laws_markExpectS.g k l0 a1 = some (r1, L')) :
  Calls Try.prog 31 #[.slice A l0.length c, .int .i64 a1] w fun e w' => e = .returned (.int .i64 r1) ∧ Kd.S k73 73 w' base ok (.slice A l0.length c) L' ∧ Below w0.heap.size w0 w' ∧ Kept w w' ok ∧ L'.length = l0.length := by
 have hn : l0.length ≤ 9223372036854775807 := by have := (Kd.R_reads' (Kd.S_R ho)).2.2.2.1; omega
 by_cases hp : 0 < l0.length
 ·obtain ⟨g, cap, hv, _⟩ := Kd.S_form ho hp
  injection hv with hA _ hc
  subst hA
  subst hc
  refine (laws_markExpectS.walkC k _ g c l0 a1 r1 L' base ok w0 w (fun _ => ⟨rfl, ho, hB, Kept.refl _ _, hlow⟩) hB hn h).mono ?_
  rintro e w' ⟨rfl, h2⟩
  replace h2 := h2.1 hp
  refine ⟨rfl, ?_, h2.1.bel, h2.1.kept, h2.2⟩
  have := h2.1.row
  rw [h2.2] at this
  exact this
 ·refine (laws_markExpectS.walkC k A 0 c l0 a1 r1 L' base ok w0 w (fun h => absurd h hp) hB hn h).mono ?_
  rintro e w' ⟨rfl, h2⟩
  obtain ⟨rfl, rfl⟩ := h2.2 (by omega)
  have hl : l0 = [] := List.eq_nil_of_length_eq_zero (by omega)
  subst hl
  exact ⟨rfl, ho, hB, Kept.refl _ _, rfl⟩
/-- A row of the call's own, told apart from the others by when it was made. -/
structure RowAt {α : Type} (d : Kd α) (e lo hi : Nat) (v : Value) (l : List α) (W : World) : Prop where
 row : Kd.S d e W lo (fun k => lo ≤ k ∧ k < hi) v l
 top : hi ≤ W.heap.size
section
variable {α : Type} {d : Kd α} {e lo hi : Nat} {v : Value} {l : List α} {W W' : World}
theorem RowAt.below (h : RowAt d e lo hi v l W) (hb : Below W.heap.size W W') : RowAt d e lo hi v l W' := ⟨Kd.S_below h.row hb, Nat.le_trans h.top hb.size⟩
theorem RowAt.kept {S : Nat → Prop} (h : RowAt d e lo hi v l W) (hk : Kept W W' S) (hne : ∀ k, lo ≤ k → k < hi → ¬ S k) : RowAt d e lo hi v l W' := ⟨Kd.S_kept h.row hk (fun k hk' => hne k hk'.1 hk'.2), Nat.le_trans h.top hk.1⟩
theorem RowAt.alloc (h : RowAt d e lo hi v l W) (o : Obj) : RowAt d e lo hi v l (W.alloc o) := h.below (below_alloc (Below.refl _ _) o)
theorem RowAt.drew (h : RowAt d e lo hi v l W) : RowAt d e lo hi v l W.drew := h.below (below_drew (Below.refl _ _))
theorem RowAt.drewN (h : RowAt d e lo hi v l W) (m : Nat) : RowAt d e lo hi v l (W.drewN m) := h.below (pw_below_drewN (Below.refl _ _) m)
theorem RowAt.made (ho : Kd.S d e W' W.heap.size (fun _ => True) v l) : RowAt d e W.heap.size W'.heap.size v l W' := ⟨Kd.S_mono (Kd.S_bound ho) (fun k hk => ⟨hk.2.1, hk.2.2.1⟩), Nat.le_refl _⟩
theorem RowAt.C {A : Option Addr} {n c : Nat} (h : RowAt d e lo hi (.slice A n c) l W) : d.C W A l.length l := (Kd.S_reads' h.row).2.2
theorem RowAt.cap {A : Option Addr} {n c : Nat} (h : RowAt d e lo hi (.slice A n c) l W) : l.length ≤ c := by
 obtain ⟨h1, h2, _⟩ := Kd.S_reads' h.row
 omega
end
def laws_FnExactExpectAll.f (k : Nat) (l0 : List S90) : Option Bool := (laws_szCallS.f k l0 1048576).bind fun t => if t < 0 then some true else (laws_toCallS.f k l0).bind fun x => (spec_ExpectAll.f k x).bind fun w => (impl_ExpectAll.f k x).bind fun g => (laws_eqExpectS.f k g.1 w.1).bind fun b1 => (laws_eqCallS.f k x x).bind fun b2 => (laws_markCallS.f k x 1).bind fun m1 => (laws_markExpectS.g k g.1 1).bind fun m2 => (laws_heldExpectS.f k m2.2 1).bind fun q => if b1 = true ∧ g.2 = w.2 ∧ b2 = true ∧ 0 ≤ m1 ∧ 0 ≤ q ∧ q = m2.1 then some true else none
theorem if_some_ {p : Prop} [Decidable p] {a r : Bool} (h : (if p then some a else none) = some r) : p ∧ a = r := by
 split at h
 ·exact ⟨by assumption, Option.some.inj h⟩
 ·cases h
theorem laws_FnExactExpectAll.mono : ∀ a0 k, LeO (laws_FnExactExpectAll.f k a0) (laws_FnExactExpectAll.f (k + 1) a0) := by
 intro a0 k
 unfold laws_FnExactExpectAll.f
 refine LeO.bind (laws_szCallS.mono _ _ _) (fun _ => LeO.ite (LeO.refl _) ?_)
 refine LeO.bind (laws_toCallS.mono _ _) (fun _ => LeO.bind (spec_ExpectAll.mono _ _) (fun _ => LeO.bind (impl_ExpectAll.mono _ _) (fun _ => LeO.bind (laws_eqExpectS.mono _ _ _) (fun _ => LeO.bind (laws_eqCallS.mono _ _ _) (fun _ => LeO.bind (laws_markCallS.mono _ _ _) (fun _ => LeO.bind (laws_markExpectS.g_mono _ _ _) (fun _ => LeO.bind (laws_heldExpectS.mono _ _ _) (fun _ => LeO.refl _))))))))
set_option maxHeartbeats 16000000 in
set_option maxRecDepth 100000 in
theorem laws_FnExactExpectAll.calls (k : Nat) (A0 : Option Addr) (c0 : Nat) (l0 : List S90) (r : Bool) (w : World) (hr0 : Kd.C k90 w A0 l0.length l0) (hc0 : l0.length ≤ c0) (h : laws_FnExactExpectAll.f k l0 = some r) :
  Calls Try.prog 6 #[.slice A0 l0.length c0] w fun e w' => e = .returned (.bool r) ∧ Below w.heap.size w w' := by
 have HR0 := Aside0.mk hr0
 have HC0 := Aside0.mk hc0
 have HB := Aside0.mk (Below.refl w.heap.size w)
 clear hr0 hc0
 unfold laws_FnExactExpectAll.f at h
 obtain ⟨t, h0, h⟩ := Option.bind_eq_some_iff.mp h
 have H0 := Aside0.mk h0
 clear h0
 by_cases c : t < 0
 ·rw [if_pos c] at h
  obtain rfl := Option.some.inj h
  have c1b0 : decide (t < 0) = true := decide_eq_true c
  clear c h
  go_enter Try.func6, Try.ntmps6
  go_wp2_with (first | ((with_reducible refine gate_callee (f := 26) rfl ?_); refine goesL_ (some 16) rfl rfl Try.func26 (by kernel_rfl) rfl #[.slice A0 l0.length c0, .int .i64 1048576] rfl (by (try simp only [List.map_toArray, List.map_cons, List.map_nil]); first | done | rfl) ?_; refine (laws_szCallS.calls k _ _ l0 1048576 t _ (Kd.C_below HR0.out (by repeat first | (with_reducible first | exact HB.out | apply below_alloc | apply pw_below_drewN | apply below_drew1) | exact HB.out)) HC0.out H0.out).mono ?_; rintro e W1 ⟨rfl, hb⟩; refine ⟨_, rfl, ?_⟩; have nB_ := Aside0.mk (below_step (by repeat first | (with_reducible first | exact HB.out | apply below_alloc | apply pw_below_drewN | apply below_drew1) | exact HB.out) hb); clear HB; have HB := nB_; clear nB_; (try clear hb)))
  go_ret
  exact ⟨rfl, HB.out⟩
 ·rw [if_neg c] at h
  have c1b0 : decide (t < 0) = false := decide_eq_false c
  clear c
  replace h := Option.bind_eq_some_iff.mp h
  obtain ⟨x, h1, h⟩ := h
  replace h := Option.bind_eq_some_iff.mp h
  obtain ⟨⟨w1, w2⟩, h2, h⟩ := h
  replace h := Option.bind_eq_some_iff.mp h
  obtain ⟨⟨g1, w2'⟩, h3, h⟩ := h
  replace h := Option.bind_eq_some_iff.mp h
  obtain ⟨b1, h4, h⟩ := h
  replace h := Option.bind_eq_some_iff.mp h
  obtain ⟨b2, h5, h⟩ := h
  replace h := Option.bind_eq_some_iff.mp h
  obtain ⟨m1, h6, h⟩ := h
  replace h := Option.bind_eq_some_iff.mp h
  obtain ⟨⟨m2, l2⟩, h7, h⟩ := h
  replace h := Option.bind_eq_some_iff.mp h
  obtain ⟨q, h8, h⟩ := h
  obtain ⟨⟨rfl, hex, rfl, hm1, hq, hqm⟩, rfl⟩ := if_some_ h
  have hex' : w2' = w2 := hex
  subst hex'
  have hqm' : q = m2 := hqm
  subst hqm'
  have H1 := Aside0.mk h1
  have H2 := Aside0.mk h2
  have H3 := Aside0.mk h3
  have H4 : Aside0 (laws_eqExpectS.f k g1 w1 = some true) := ⟨h4⟩
  have H5 := Aside0.mk h5
  have H6 := Aside0.mk h6
  have H7 : Aside0 (laws_markExpectS.g k g1 1 = some (q, l2)) := ⟨h7⟩
  have H8 : Aside0 (laws_heldExpectS.f k l2 1 = some q) := ⟨h8⟩
  have c2b0 : decide (m1 < 0) = false := decide_eq_false (by have h_ : 0 ≤ m1 := hm1; omega)
  have c3b0 : decide (q < 0) = false := decide_eq_false (by omega)
  have c4b0 : (q == q) = true := beq_self_eq_true q
  have c4b1 : (q != q) = false := bne_self_eq_false q
  have c5b0 : (w2' != w2') = false := bne_self_eq_false w2'
  have c5b1 : (w2' == w2') = true := beq_self_eq_true w2'
  clear h h1 h2 h3 h4 h5 h6 h7 h8 hm1 hq hqm
  go_enter Try.func6, Try.ntmps6
  go_wp2_with (first | ((with_reducible refine gate_callee (f := 26) rfl ?_); refine goesL_ (some 16) rfl rfl Try.func26 (by kernel_rfl) rfl #[.slice A0 l0.length c0, .int .i64 1048576] rfl (by (try simp only [List.map_toArray, List.map_cons, List.map_nil]); first | done | rfl) ?_; refine (laws_szCallS.calls k _ _ l0 1048576 t _ (Kd.C_below HR0.out (by repeat first | (with_reducible first | exact HB.out | apply below_alloc | apply pw_below_drewN | apply below_drew1) | exact HB.out)) HC0.out H0.out).mono ?_; rintro e W1 ⟨rfl, hb⟩; refine ⟨_, rfl, ?_⟩; have nB_ := Aside0.mk (below_step (by repeat first | (with_reducible first | exact HB.out | apply below_alloc | apply pw_below_drewN | apply below_drew1) | exact HB.out) hb); clear HB; have HB := nB_; clear nB_; (try clear hb)) | ((with_reducible refine gate_callee (f := 27) rfl ?_); refine goesL_ (some 21) rfl rfl Try.func27 (by kernel_rfl) rfl #[.slice A0 l0.length c0] rfl (by (try simp only [List.map_toArray, List.map_cons, List.map_nil]); first | done | rfl) ?_; refine (laws_toCallS.calls k _ _ l0 x _ (Kd.C_below HR0.out (by repeat first | (with_reducible first | exact HB.out | apply below_alloc | apply pw_below_drewN | apply below_drew1) | exact HB.out)) HC0.out H1.out).mono ?_; rintro e W2 ⟨vr_, rfl, ho0, hb⟩; refine ⟨_, rfl, ?_⟩; obtain ⟨loa, hia, l1_, l2_, hX_⟩ : ∃ lo hi, w.heap.size ≤ lo ∧ lo ≤ hi ∧ RowAt k33 33 lo hi vr_ x W2 := ⟨_, _, below_size (by repeat first | (with_reducible first | exact HB.out | apply below_alloc | apply pw_below_drewN | apply below_drew1) | exact HB.out), hb.size, RowAt.made ho0⟩; have nB_ := Aside0.mk (below_step (by repeat first | (with_reducible first | exact HB.out | apply below_alloc | apply pw_below_drewN | apply below_drew1) | exact HB.out) hb); clear HB; have HB := nB_; clear nB_; have La := Aside0.mk (⟨l1_, l2_⟩ : _ ∧ _); clear l1_ l2_; have HXa := Aside0.mk hX_; clear hX_; obtain ⟨Aa, ca, eo_⟩ := Kd.S_slice HXa.out.row; subst eo_; (try clear hb); (try clear ho0)) | ((with_reducible refine gate_callee (f := 24) rfl ?_); refine goesL_ (some 22) rfl rfl Try.func24 (by kernel_rfl) rfl #[.slice Aa x.length ca] rfl (by (try simp only [List.map_toArray, List.map_cons, List.map_nil]); first | done | rfl) ?_; refine (spec_ExpectAll.calls k _ _ x w1 w2' _ (RowAt.C (by (with_reducible repeat (first | apply RowAt.alloc | apply RowAt.drewN | apply RowAt.drew)); exact HXa.out)) (RowAt.cap HXa.out) H2.out).mono ?_; rintro e W3 ⟨vr_, rfl, ho0, hb⟩; refine ⟨_, rfl, ?_⟩; obtain ⟨low, hiw, l1_, l2_, hX_⟩ : ∃ lo hi, hia ≤ lo ∧ lo ≤ hi ∧ RowAt k73 73 lo hi vr_ w1 W3 := ⟨_, _, RowAt.top (by (with_reducible repeat (first | apply RowAt.alloc | apply RowAt.drewN | apply RowAt.drew)); exact HXa.out), hb.size, RowAt.made ho0⟩; have nX_ := Aside0.mk (RowAt.below (by (with_reducible repeat (first | apply RowAt.alloc | apply RowAt.drewN | apply RowAt.drew)); exact HXa.out) hb); clear HXa; have HXa := nX_; clear nX_; have nB_ := Aside0.mk (below_step (by repeat first | (with_reducible first | exact HB.out | apply below_alloc | apply pw_below_drewN | apply below_drew1) | exact HB.out) hb); clear HB; have HB := nB_; clear nB_; have Lw := Aside0.mk (⟨l1_, l2_⟩ : _ ∧ _); clear l1_ l2_; have HXw := Aside0.mk hX_; clear hX_; obtain ⟨Aw, cw, eo_⟩ := Kd.S_slice HXw.out.row; subst eo_; (try clear hb); (try clear ho0); clear HXa) | ((with_reducible refine gate_callee (f := 27) rfl ?_); refine goesL_ (some 26) rfl rfl Try.func27 (by kernel_rfl) rfl #[.slice A0 l0.length c0] rfl (by (try simp only [List.map_toArray, List.map_cons, List.map_nil]); first | done | rfl) ?_; refine (laws_toCallS.calls k _ _ l0 x _ (Kd.C_below HR0.out (by repeat first | (with_reducible first | exact HB.out | apply below_alloc | apply pw_below_drewN | apply below_drew1) | exact HB.out)) HC0.out H1.out).mono ?_; rintro e W4 ⟨vr_, rfl, ho0, hb⟩; refine ⟨_, rfl, ?_⟩; obtain ⟨lob, hib, l1_, l2_, hX_⟩ : ∃ lo hi, hiw ≤ lo ∧ lo ≤ hi ∧ RowAt k33 33 lo hi vr_ x W4 := ⟨_, _, RowAt.top (by (with_reducible repeat (first | apply RowAt.alloc | apply RowAt.drewN | apply RowAt.drew)); exact HXw.out), hb.size, RowAt.made ho0⟩; have nX_ := Aside0.mk (RowAt.below (by (with_reducible repeat (first | apply RowAt.alloc | apply RowAt.drewN | apply RowAt.drew)); exact HXw.out) hb); clear HXw; have HXw := nX_; clear nX_; have nB_ := Aside0.mk (below_step (by repeat first | (with_reducible first | exact HB.out | apply below_alloc | apply pw_below_drewN | apply below_drew1) | exact HB.out) hb); clear HB; have HB := nB_; clear nB_; have Lb := Aside0.mk (⟨l1_, l2_⟩ : _ ∧ _); clear l1_ l2_; have HXb := Aside0.mk hX_; clear hX_; obtain ⟨Ab, cb, eo_⟩ := Kd.S_slice HXb.out.row; subst eo_; (try clear hb); (try clear ho0)) | ((with_reducible refine gate_callee (f := 23) rfl ?_); refine goesL_ (some 29) rfl rfl Try.func23 (by kernel_rfl) rfl #[.slice Ab x.length cb] rfl (by (try simp only [List.map_toArray, List.map_cons, List.map_nil]); first | done | rfl) ?_; refine (impl_ExpectAll.calls k _ _ x g1 w2' _ (RowAt.C (by (with_reducible repeat (first | apply RowAt.alloc | apply RowAt.drewN | apply RowAt.drew)); exact HXb.out)) (RowAt.cap HXb.out) H3.out).mono ?_; rintro e W5 ⟨vr_, rfl, ho0, hb⟩; refine ⟨_, rfl, ?_⟩; obtain ⟨log, hig, l1_, l2_, hX_⟩ : ∃ lo hi, hib ≤ lo ∧ lo ≤ hi ∧ RowAt k73 73 lo hi vr_ g1 W5 := ⟨_, _, RowAt.top (by (with_reducible repeat (first | apply RowAt.alloc | apply RowAt.drewN | apply RowAt.drew)); exact HXb.out), hb.size, RowAt.made ho0⟩; have nX_ := Aside0.mk (RowAt.below (by (with_reducible repeat (first | apply RowAt.alloc | apply RowAt.drewN | apply RowAt.drew)); exact HXw.out) hb); clear HXw; have HXw := nX_; clear nX_; have nX_ := Aside0.mk (RowAt.below (by (with_reducible repeat (first | apply RowAt.alloc | apply RowAt.drewN | apply RowAt.drew)); exact HXb.out) hb); clear HXb; have HXb := nX_; clear nX_; have nB_ := Aside0.mk (below_step (by repeat first | (with_reducible first | exact HB.out | apply below_alloc | apply pw_below_drewN | apply below_drew1) | exact HB.out) hb); clear HB; have HB := nB_; clear nB_; have Lg := Aside0.mk (⟨l1_, l2_⟩ : _ ∧ _); clear l1_ l2_; have HXg := Aside0.mk hX_; clear hX_; obtain ⟨Ag, cg, eo_⟩ := Kd.S_slice HXg.out.row; subst eo_; (try clear hb); (try clear ho0)) | ((with_reducible refine gate_callee (f := 28) rfl ?_); refine goesL_ (some 34) rfl rfl Try.func28 (by kernel_rfl) rfl #[.slice Ag g1.length cg, .slice Aw w1.length cw] rfl (by (try simp only [List.map_toArray, List.map_cons, List.map_nil]); first | done | rfl) ?_; refine (laws_eqExpectS.calls k _ _ g1 _ _ w1 true _ (RowAt.C (by (with_reducible repeat (first | apply RowAt.alloc | apply RowAt.drewN | apply RowAt.drew)); exact HXg.out)) (RowAt.cap HXg.out) (RowAt.C (by (with_reducible repeat (first | apply RowAt.alloc | apply RowAt.drewN | apply RowAt.drew)); exact HXw.out)) (RowAt.cap HXw.out) H4.out).mono ?_; rintro e W6 ⟨rfl, hb⟩; refine ⟨_, rfl, ?_⟩; have nX_ := Aside0.mk (RowAt.below (by (with_reducible repeat (first | apply RowAt.alloc | apply RowAt.drewN | apply RowAt.drew)); exact HXw.out) hb); clear HXw; have HXw := nX_; clear nX_; have nX_ := Aside0.mk (RowAt.below (by (with_reducible repeat (first | apply RowAt.alloc | apply RowAt.drewN | apply RowAt.drew)); exact HXb.out) hb); clear HXb; have HXb := nX_; clear nX_; have nX_ := Aside0.mk (RowAt.below (by (with_reducible repeat (first | apply RowAt.alloc | apply RowAt.drewN | apply RowAt.drew)); exact HXg.out) hb); clear HXg; have HXg := nX_; clear nX_; have nB_ := Aside0.mk (below_step (by repeat first | (with_reducible first | exact HB.out | apply below_alloc | apply pw_below_drewN | apply below_drew1) | exact HB.out) hb); clear HB; have HB := nB_; clear nB_; (try clear hb)) | ((with_reducible refine gate_callee (f := 27) rfl ?_); refine goesL_ (some 43) rfl rfl Try.func27 (by kernel_rfl) rfl #[.slice A0 l0.length c0] rfl (by (try simp only [List.map_toArray, List.map_cons, List.map_nil]); first | done | rfl) ?_; refine (laws_toCallS.calls k _ _ l0 x _ (Kd.C_below HR0.out (by repeat first | (with_reducible first | exact HB.out | apply below_alloc | apply pw_below_drewN | apply below_drew1) | exact HB.out)) HC0.out H1.out).mono ?_; rintro e W7 ⟨vr_, rfl, ho0, hb⟩; refine ⟨_, rfl, ?_⟩; obtain ⟨loc, hic, l1_, l2_, hX_⟩ : ∃ lo hi, hig ≤ lo ∧ lo ≤ hi ∧ RowAt k33 33 lo hi vr_ x W7 := ⟨_, _, RowAt.top (by (with_reducible repeat (first | apply RowAt.alloc | apply RowAt.drewN | apply RowAt.drew)); exact HXg.out), hb.size, RowAt.made ho0⟩; have nX_ := Aside0.mk (RowAt.below (by (with_reducible repeat (first | apply RowAt.alloc | apply RowAt.drewN | apply RowAt.drew)); exact HXw.out) hb); clear HXw; have HXw := nX_; clear nX_; have nX_ := Aside0.mk (RowAt.below (by (with_reducible repeat (first | apply RowAt.alloc | apply RowAt.drewN | apply RowAt.drew)); exact HXb.out) hb); clear HXb; have HXb := nX_; clear nX_; have nX_ := Aside0.mk (RowAt.below (by (with_reducible repeat (first | apply RowAt.alloc | apply RowAt.drewN | apply RowAt.drew)); exact HXg.out) hb); clear HXg; have HXg := nX_; clear nX_; have nB_ := Aside0.mk (below_step (by repeat first | (with_reducible first | exact HB.out | apply below_alloc | apply pw_below_drewN | apply below_drew1) | exact HB.out) hb); clear HB; have HB := nB_; clear nB_; have Lc := Aside0.mk (⟨l1_, l2_⟩ : _ ∧ _); clear l1_ l2_; have HXc := Aside0.mk hX_; clear hX_; obtain ⟨Ac, cc, eo_⟩ := Kd.S_slice HXc.out.row; subst eo_; (try clear hb); (try clear ho0)) | ((with_reducible refine gate_callee (f := 29) rfl ?_); refine goesL_ (some 44) rfl rfl Try.func29 (by kernel_rfl) rfl #[.slice Ab x.length cb, .slice Ac x.length cc] rfl (by (try simp only [List.map_toArray, List.map_cons, List.map_nil]); first | done | rfl) ?_; refine (laws_eqCallS.calls k _ _ x _ _ x true _ (RowAt.C (by (with_reducible repeat (first | apply RowAt.alloc | apply RowAt.drewN | apply RowAt.drew)); exact HXb.out)) (RowAt.cap HXb.out) (RowAt.C (by (with_reducible repeat (first | apply RowAt.alloc | apply RowAt.drewN | apply RowAt.drew)); exact HXc.out)) (RowAt.cap HXc.out) H5.out).mono ?_; rintro e W8 ⟨rfl, hb⟩; refine ⟨_, rfl, ?_⟩; have nX_ := Aside0.mk (RowAt.below (by (with_reducible repeat (first | apply RowAt.alloc | apply RowAt.drewN | apply RowAt.drew)); exact HXw.out) hb); clear HXw; have HXw := nX_; clear nX_; have nX_ := Aside0.mk (RowAt.below (by (with_reducible repeat (first | apply RowAt.alloc | apply RowAt.drewN | apply RowAt.drew)); exact HXb.out) hb); clear HXb; have HXb := nX_; clear nX_; have nX_ := Aside0.mk (RowAt.below (by (with_reducible repeat (first | apply RowAt.alloc | apply RowAt.drewN | apply RowAt.drew)); exact HXg.out) hb); clear HXg; have HXg := nX_; clear nX_; have nX_ := Aside0.mk (RowAt.below (by (with_reducible repeat (first | apply RowAt.alloc | apply RowAt.drewN | apply RowAt.drew)); exact HXc.out) hb); clear HXc; have HXc := nX_; clear nX_; have nB_ := Aside0.mk (below_step (by repeat first | (with_reducible first | exact HB.out | apply below_alloc | apply pw_below_drewN | apply below_drew1) | exact HB.out) hb); clear HB; have HB := nB_; clear nB_; (try clear hb); clear HXc) | ((with_reducible refine gate_callee (f := 30) rfl ?_); refine goesL_ (some 48) rfl rfl Try.func30 (by kernel_rfl) rfl #[.slice Ab x.length cb, .int .i64 1] rfl (by (try simp only [List.map_toArray, List.map_cons, List.map_nil]); first | done | rfl) ?_; refine (laws_markCallS.calls k (fun k_ => lob ≤ k_ ∧ k_ < hib) _ _ x 1 m1 lob w _ (by repeat first | (with_reducible first | exact HB.out | apply below_alloc | apply pw_below_drewN | apply below_drew1) | exact HB.out) (by have q1_ := La.out; have q2_ := Lw.out; have q3_ := Lb.out; have q4_ := Lg.out; omega) (Kd.S_R (RowAt.row (by (with_reducible repeat (first | apply RowAt.alloc | apply RowAt.drewN | apply RowAt.drew)); exact HXb.out))) H6.out).mono ?_; rintro e W9 ⟨rfl, hb, hkp⟩; refine ⟨_, rfl, ?_⟩; have nX_ := Aside0.mk (RowAt.kept (by (with_reducible repeat (first | apply RowAt.alloc | apply RowAt.drewN | apply RowAt.drew)); exact HXw.out) hkp (fun k_ h1_ h2_ hs_ => by have h3_ := hs_.1; have h4_ := hs_.2; have q1_ := La.out; have q2_ := Lw.out; have q3_ := Lb.out; have q4_ := Lg.out; omega)); clear HXw; have HXw := nX_; clear nX_; have nX_ := Aside0.mk (RowAt.kept (by (with_reducible repeat (first | apply RowAt.alloc | apply RowAt.drewN | apply RowAt.drew)); exact HXg.out) hkp (fun k_ h1_ h2_ hs_ => by have h3_ := hs_.1; have h4_ := hs_.2; have q1_ := La.out; have q2_ := Lw.out; have q3_ := Lb.out; have q4_ := Lg.out; omega)); clear HXg; have HXg := nX_; clear nX_; clear HXb; clear HB; have HB := Aside0.mk hb; clear hb hkp) | (go_at_call 28; refine (laws_eqExpectS.calls k _ _ g1 _ _ w1 true _ (RowAt.C (by (with_reducible repeat (first | apply RowAt.alloc | apply RowAt.drewN | apply RowAt.drew)); exact HXg.out)) (RowAt.cap HXg.out) (RowAt.C (by (with_reducible repeat (first | apply RowAt.alloc | apply RowAt.drewN | apply RowAt.drew)); exact HXw.out)) (RowAt.cap HXw.out) H4.out).mono ?_; rintro e W10 ⟨rfl, hb⟩; have nX_ := Aside0.mk (RowAt.below (by (with_reducible repeat (first | apply RowAt.alloc | apply RowAt.drewN | apply RowAt.drew)); exact HXw.out) hb); clear HXw; have HXw := nX_; clear nX_; have nX_ := Aside0.mk (RowAt.below (by (with_reducible repeat (first | apply RowAt.alloc | apply RowAt.drewN | apply RowAt.drew)); exact HXg.out) hb); clear HXg; have HXg := nX_; clear nX_; have nB_ := Aside0.mk (below_step (by repeat first | (with_reducible first | exact HB.out | apply below_alloc | apply pw_below_drewN | apply below_drew1) | exact HB.out) hb); clear HB; have HB := nB_; clear nB_; (try clear hb)) | ((with_reducible refine gate_callee (f := 31) rfl ?_); refine goesL_ (some 64) rfl rfl Try.func31 (by kernel_rfl) rfl #[.slice Ag g1.length cg, .int .i64 1] rfl (by (try simp only [List.map_toArray, List.map_cons, List.map_nil]); first | done | rfl) ?_; refine (laws_markExpectS.callsC k _ _ g1 1 q l2 log (fun k_ => log ≤ k_ ∧ k_ < hig) w _ (by repeat first | (with_reducible first | exact HB.out | apply below_alloc | apply pw_below_drewN | apply below_drew1) | exact HB.out) (by have q1_ := La.out; have q2_ := Lw.out; have q3_ := Lb.out; have q4_ := Lg.out; omega) (RowAt.row (by (with_reducible repeat (first | apply RowAt.alloc | apply RowAt.drewN | apply RowAt.drew)); exact HXg.out)) H7.out).mono ?_; rintro e W11 ⟨rfl, hr_, hb, hkp, hl_⟩; refine ⟨_, rfl, ?_⟩; have nX_ := Aside0.mk (RowAt.kept (by (with_reducible repeat (first | apply RowAt.alloc | apply RowAt.drewN | apply RowAt.drew)); exact HXw.out) hkp (fun k_ h1_ h2_ hs_ => by have h3_ := hs_.1; have h4_ := hs_.2; have q1_ := La.out; have q2_ := Lw.out; have q3_ := Lb.out; have q4_ := Lg.out; omega)); clear HXw; have HXw := nX_; clear nX_; have HXm : Aside0 (RowAt k73 73 log hig (.slice Ag l2.length cg) l2 W11) := ⟨⟨by rw [hl_]; exact hr_, Nat.le_trans (RowAt.top (by (with_reducible repeat (first | apply RowAt.alloc | apply RowAt.drewN | apply RowAt.drew)); exact HXg.out)) hkp.1⟩⟩; have HLEN := Aside0.mk hl_; clear hl_; clear HXg; clear HB; have HB := Aside0.mk hb; clear hb hkp hr_) | ((with_reducible refine gate_callee (f := 32) rfl ?_); refine goesL_ (some 67) rfl rfl Try.func32 (by kernel_rfl) rfl #[.slice Ag g1.length cg, .int .i64 1] rfl (by (try simp only [List.map_toArray, List.map_cons, List.map_nil]); first | done | rfl) ?_; refine calls_of_args (args' := #[.slice Ag l2.length cg, .int .i64 1]) (by rw [HLEN.out]) ?_; refine (laws_heldExpectS.calls k _ _ l2 1 q _ (RowAt.C (by (with_reducible repeat (first | apply RowAt.alloc | apply RowAt.drewN | apply RowAt.drew)); exact HXm.out)) (RowAt.cap HXm.out) H8.out).mono ?_; rintro e W12 ⟨rfl, hb⟩; refine ⟨_, rfl, ?_⟩; have nX_ := Aside0.mk (RowAt.below (by (with_reducible repeat (first | apply RowAt.alloc | apply RowAt.drewN | apply RowAt.drew)); exact HXw.out) hb); clear HXw; have HXw := nX_; clear nX_; have nX_ := Aside0.mk (RowAt.below (by (with_reducible repeat (first | apply RowAt.alloc | apply RowAt.drewN | apply RowAt.drew)); exact HXm.out) hb); clear HXm; have HXm := nX_; clear nX_; have nB_ := Aside0.mk (below_step (by repeat first | (with_reducible first | exact HB.out | apply below_alloc | apply pw_below_drewN | apply below_drew1) | exact HB.out) hb); clear HB; have HB := nB_; clear nB_; (try clear hb)) | ((with_reducible refine gate_callee (f := 27) rfl ?_); refine goesL_ (some 75) rfl rfl Try.func27 (by kernel_rfl) rfl #[.slice A0 l0.length c0] rfl (by (try simp only [List.map_toArray, List.map_cons, List.map_nil]); first | done | rfl) ?_; refine (laws_toCallS.calls k _ _ l0 x _ (Kd.C_below HR0.out (by repeat first | (with_reducible first | exact HB.out | apply below_alloc | apply pw_below_drewN | apply below_drew1) | exact HB.out)) HC0.out H1.out).mono ?_; rintro e W13 ⟨vr_, rfl, ho0, hb⟩; refine ⟨_, rfl, ?_⟩; obtain ⟨lod, hid, l1_, l2_, hX_⟩ : ∃ lo hi, 0 ≤ lo ∧ lo ≤ hi ∧ RowAt k33 33 lo hi vr_ x W13 := ⟨_, _, Nat.zero_le _, hb.size, RowAt.made ho0⟩; have nX_ := Aside0.mk (RowAt.below (by (with_reducible repeat (first | apply RowAt.alloc | apply RowAt.drewN | apply RowAt.drew)); exact HXw.out) hb); clear HXw; have HXw := nX_; clear nX_; have nX_ := Aside0.mk (RowAt.below (by (with_reducible repeat (first | apply RowAt.alloc | apply RowAt.drewN | apply RowAt.drew)); exact HXm.out) hb); clear HXm; have HXm := nX_; clear nX_; have nB_ := Aside0.mk (below_step (by repeat first | (with_reducible first | exact HB.out | apply below_alloc | apply pw_below_drewN | apply below_drew1) | exact HB.out) hb); clear HB; have HB := nB_; clear nB_; have Ld := Aside0.mk (⟨l1_, l2_⟩ : _ ∧ _); clear l1_ l2_; have HXd := Aside0.mk hX_; clear hX_; obtain ⟨Ad, cd, eo_⟩ := Kd.S_slice HXd.out.row; subst eo_; (try clear hb); (try clear ho0)) | ((with_reducible refine gate_callee (f := 23) rfl ?_); refine goesL_ (some 76) rfl rfl Try.func23 (by kernel_rfl) rfl #[.slice Ad x.length cd] rfl (by (try simp only [List.map_toArray, List.map_cons, List.map_nil]); first | done | rfl) ?_; refine (impl_ExpectAll.calls k _ _ x g1 w2' _ (RowAt.C (by (with_reducible repeat (first | apply RowAt.alloc | apply RowAt.drewN | apply RowAt.drew)); exact HXd.out)) (RowAt.cap HXd.out) H3.out).mono ?_; rintro e W14 ⟨vr_, rfl, ho0, hb⟩; refine ⟨_, rfl, ?_⟩; obtain ⟨loh, hih, l1_, l2_, hX_⟩ : ∃ lo hi, 0 ≤ lo ∧ lo ≤ hi ∧ RowAt k73 73 lo hi vr_ g1 W14 := ⟨_, _, Nat.zero_le _, hb.size, RowAt.made ho0⟩; have nX_ := Aside0.mk (RowAt.below (by (with_reducible repeat (first | apply RowAt.alloc | apply RowAt.drewN | apply RowAt.drew)); exact HXw.out) hb); clear HXw; have HXw := nX_; clear nX_; have nX_ := Aside0.mk (RowAt.below (by (with_reducible repeat (first | apply RowAt.alloc | apply RowAt.drewN | apply RowAt.drew)); exact HXm.out) hb); clear HXm; have HXm := nX_; clear nX_; have nX_ := Aside0.mk (RowAt.below (by (with_reducible repeat (first | apply RowAt.alloc | apply RowAt.drewN | apply RowAt.drew)); exact HXd.out) hb); clear HXd; have HXd := nX_; clear nX_; have nB_ := Aside0.mk (below_step (by repeat first | (with_reducible first | exact HB.out | apply below_alloc | apply pw_below_drewN | apply below_drew1) | exact HB.out) hb); clear HB; have HB := nB_; clear nB_; have Lh := Aside0.mk (⟨l1_, l2_⟩ : _ ∧ _); clear l1_ l2_; have HXh := Aside0.mk hX_; clear hX_; obtain ⟨Ah, ch, eo_⟩ := Kd.S_slice HXh.out.row; subst eo_; (try clear hb); (try clear ho0)) | ((with_reducible refine gate_callee (f := 28) rfl ?_); refine goesL_ (some 81) rfl rfl Try.func28 (by kernel_rfl) rfl #[.slice Ah g1.length ch, .slice Aw w1.length cw] rfl (by (try simp only [List.map_toArray, List.map_cons, List.map_nil]); first | done | rfl) ?_; refine (laws_eqExpectS.calls k _ _ g1 _ _ w1 true _ (RowAt.C (by (with_reducible repeat (first | apply RowAt.alloc | apply RowAt.drewN | apply RowAt.drew)); exact HXh.out)) (RowAt.cap HXh.out) (RowAt.C (by (with_reducible repeat (first | apply RowAt.alloc | apply RowAt.drewN | apply RowAt.drew)); exact HXw.out)) (RowAt.cap HXw.out) H4.out).mono ?_; rintro e W15 ⟨rfl, hb⟩; refine ⟨_, rfl, ?_⟩; have nX_ := Aside0.mk (RowAt.below (by (with_reducible repeat (first | apply RowAt.alloc | apply RowAt.drewN | apply RowAt.drew)); exact HXw.out) hb); clear HXw; have HXw := nX_; clear nX_; have nX_ := Aside0.mk (RowAt.below (by (with_reducible repeat (first | apply RowAt.alloc | apply RowAt.drewN | apply RowAt.drew)); exact HXm.out) hb); clear HXm; have HXm := nX_; clear nX_; have nX_ := Aside0.mk (RowAt.below (by (with_reducible repeat (first | apply RowAt.alloc | apply RowAt.drewN | apply RowAt.drew)); exact HXd.out) hb); clear HXd; have HXd := nX_; clear nX_; have nX_ := Aside0.mk (RowAt.below (by (with_reducible repeat (first | apply RowAt.alloc | apply RowAt.drewN | apply RowAt.drew)); exact HXh.out) hb); clear HXh; have HXh := nX_; clear nX_; have nB_ := Aside0.mk (below_step (by repeat first | (with_reducible first | exact HB.out | apply below_alloc | apply pw_below_drewN | apply below_drew1) | exact HB.out) hb); clear HB; have HB := nB_; clear nB_; (try clear hb)) | ((with_reducible refine gate_callee (f := 32) rfl ?_); refine goesL_ (some 90) rfl rfl Try.func32 (by kernel_rfl) rfl #[.slice Ag g1.length cg, .int .i64 1] rfl (by (try simp only [List.map_toArray, List.map_cons, List.map_nil]); first | done | rfl) ?_; refine calls_of_args (args' := #[.slice Ag l2.length cg, .int .i64 1]) (by rw [HLEN.out]) ?_; refine (laws_heldExpectS.calls k _ _ l2 1 q _ (RowAt.C (by (with_reducible repeat (first | apply RowAt.alloc | apply RowAt.drewN | apply RowAt.drew)); exact HXm.out)) (RowAt.cap HXm.out) H8.out).mono ?_; rintro e W16 ⟨rfl, hb⟩; refine ⟨_, rfl, ?_⟩; have nX_ := Aside0.mk (RowAt.below (by (with_reducible repeat (first | apply RowAt.alloc | apply RowAt.drewN | apply RowAt.drew)); exact HXw.out) hb); clear HXw; have HXw := nX_; clear nX_; have nX_ := Aside0.mk (RowAt.below (by (with_reducible repeat (first | apply RowAt.alloc | apply RowAt.drewN | apply RowAt.drew)); exact HXm.out) hb); clear HXm; have HXm := nX_; clear nX_; have nX_ := Aside0.mk (RowAt.below (by (with_reducible repeat (first | apply RowAt.alloc | apply RowAt.drewN | apply RowAt.drew)); exact HXd.out) hb); clear HXd; have HXd := nX_; clear nX_; have nX_ := Aside0.mk (RowAt.below (by (with_reducible repeat (first | apply RowAt.alloc | apply RowAt.drewN | apply RowAt.drew)); exact HXh.out) hb); clear HXh; have HXh := nX_; clear nX_; have nB_ := Aside0.mk (below_step (by repeat first | (with_reducible first | exact HB.out | apply below_alloc | apply pw_below_drewN | apply below_drew1) | exact HB.out) hb); clear HB; have HB := nB_; clear nB_; (try clear hb)))
  go_ret
  exact ⟨rfl, HB.out⟩


end Go.Proofs.Ytcbkpdgbijdbbaa.R
