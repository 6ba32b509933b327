-- WRITTEN by wip/ext.py
import Derived.Test.YtadhfpbkanobnaaUx0
import Derived.Test.YtadhfpbkanobnaaUx1
import Derived.Test.YtadhfpbkanobnaaUx2
import Derived.Test.YtadhfpbkanobnaaUx3
import Derived.Test.YtadhfpbkanobnaaUx7
import Derived.Test.YtadhfpbkanobnaaUx9
import Derived.Test.YtadhfpbkanobnaaUx10
import Derived.Test.YtadhfpbkanobnaaUx11
namespace Go.Proofs.Ytadhfpbkanobnaa.U
open Go.RowKit Go.Proofs.YtadhfpbkanobnaaW.PrintWords Go.Proofs.YtadhfpbkanobnaaW.PrintLast Go.Proofs.YtadhfpbkanobnaaW.PrintMore
attribute [local go_sem] max2_int min2_int max_two min_two max_three min_three max_four min_four   -- for this text's walks alone
set_option linter.unusedVariables false
set_option linter.unusedSimpArgs false

/-! ### laws_FnExactGroupModules: function 6 -/
def CCase_ (n : Nat) (A B : Prop) : Prop := (0 < n → A) ∧ (n = 0 → B)
theorem set_set_ {α : Type} (l : List α) (i : Nat) (x y : α) : (l.set i x).set i y = l.set i y := by simp
theorem set_get_ {α : Type} (l : List α) (i : Nat) (h : i < l.length) : l.set i l[i] = l := List.set_getElem_self h
theorem getD_set_ {α : Type} (l : List α) (i : Nat) (x z : α) (h : i < l.length) : (l.set i x).getD i z = x := by simp [List.getD_eq_getElem?_getD, List.getElem?_set_self h]
theorem drop_set_ {α : Type} (l : List α) (i : Nat) (x : α) : (l.set i x).drop (i + 1) = l.drop (i + 1) := by
 apply List.ext_getElem?
 intro j
 rw [List.getElem?_drop, List.getElem?_drop, List.getElem?_set_ne (by omega)]
theorem take_set_ {α : Type} (l : List α) (i : Nat) (x : α) (h : i < l.length) : (l.set i x).take (i + 1) = l.take i ++ [x] := by
 rw [List.take_succ_eq_append_getElem (by simpa using h), List.getElem_set_self]
 congr 1
 apply List.ext_getElem?
 intro j
 rw [List.getElem?_take, List.getElem?_take]
 split
 ·rw [List.getElem?_set_ne (by omega)]
 ·rfl
structure CTest (base : Nat) (ok : Nat → Prop) (g cap : Nat) (w0 wS W : World) (cur : List S31) : Prop where
 row : Kd.S kA31 31 W base ok (.slice (some ⟨g, 0, none⟩) cur.length cap) cur
 bel : Below w0.heap.size w0 W
 kept : Kept wS W ok
 low : w0.heap.size ≤ base
theorem CTest.below {base g cap : Nat} {ok : Nat → Prop} {cur : List S31} {w0 wS W : World} (h : CTest base ok g cap w0 wS W cur) {W' : World} (hb : Below W.heap.size W W') : CTest base ok g cap w0 wS W' cur := ⟨Kd.S_below h.row hb, below_step h.bel hb, h.kept.below hb, h.low⟩
theorem CTest.own {base g cap : Nat} {ok : Nat → Prop} {cur : List S31} {w0 wS W : World} (h : CTest base ok g cap w0 wS W cur) : ok g ∧ base ≤ g := ⟨(Kd.S_R h.row).1 g (by simp [Value.ownBlock]), Kd.S_base h.row g (by simp [Value.ownBlock])⟩
theorem CTest.elem {base g cap : Nat} {ok : Nat → Prop} {cur : List S31} {w0 wS W : World} (i : Nat) (y : S31) (h : CTest base ok g cap w0 wS W (cur.set i y)) (hi : i < cur.length) :
  ∃ (oki : Nat → Prop) (v2 v3 : Value) (f : Nat → Bool), Kd.string.R 9 W base (fun k => oki k ∧ f k = true) v2 y.f2 ∧ Kd.string.R 9 W base (fun k => oki k ∧ f k = false) v3 y.f3 ∧ (∀ j u, ([.string y.f0, .string y.f1, v2, v3] : List Value)[j]? = some u → W.cell? ⟨g, i * 4 + j, none⟩ = some u) ∧ (∀ j, W.frozen? ⟨g, i * 4 + j, none⟩ = false) ∧ (∀ k, oki k → ok k) ∧ Kd.H kA31 31 W base ok (.slice (some ⟨g, 0, none⟩) (cur.set i y).length cap) (cur.set i y) (i : Int) oki [.string y.f0, .string y.f1, v2, v3] := by
 have hl : (cur.set i y).length = cur.length := List.length_set
 obtain ⟨oki, c, hcl, hM, hcc, hfr, hok, hH⟩ := Kd.S_elem h.row z31 (i : Int) (by omega) (by omega)
 rw [Int.toNat_natCast] at hcc hfr hM
 rw [getD_set_ _ _ _ _ hi] at hM
 obtain ⟨v2, v3, f, rfl, g2, g3⟩ := kA31_openM hM
 exact ⟨oki, v2, v3, f, g2, g3,  hcc, hfr, fun k hk => (hok k hk).1, hH⟩
theorem CTest.set0 {base g cap : Nat} {ok : Nat → Prop} {cur : List S31} {w0 wS W : World} {i : Nat} {y : S31} (h : CTest base ok g cap w0 wS W (cur.set i y)) (hi : i < cur.length) (b : ByteArray) : CTest base ok g cap w0 wS (W.setCell ⟨g, i * 4 + 0, none⟩ (Value.string b)) (cur.set i { y with f0 := b }) := by
 have hl : (cur.set i y).length = cur.length := List.length_set
 obtain ⟨oki, v2, v3, f, g2, g3,  hcc, hfr, hok, hH⟩ := CTest.elem i y h hi
 obtain ⟨h2, h3⟩ := Kd.S_seg0 hH (by omega) (by omega) (seg := [Value.string b]) (j := 0) (by show 0 + 1 ≤ 4; decide) (x' := { y with f0 := b }) (okp := oki) (kA31_mkF W base oki { y with f0 := b } f g2 g3) (fun _ hk => hk)
 rw [Int.toNat_natCast, set_set_] at h2
 have hlen : (cur.set i { y with f0 := b }).length = (cur.set i y).length := by rw [List.length_set, List.length_set]
 refine ⟨by rw [hlen]; exact h2, below_set h.bel (Nat.le_trans h.low h.own.2), h.kept.setCell (.inl h.own.1) _, h.low⟩
theorem CTest.at0 {base g cap : Nat} {ok : Nat → Prop} {cur : List S31} {w0 wS W : World} {i : Nat} {y : S31} (h : CTest base ok g cap w0 wS W (cur.set i y)) (hi : i < cur.length) : (∃ u, W.cell? ⟨g, i * 4, none⟩ = some (Value.string u)) ∧ W.frozen? ⟨g, i * 4, none⟩ = false := by
 obtain ⟨oki, v2, v3, f, g2, g3,  hcc, hfr, hok, hH⟩ := CTest.elem i y h hi
 exact ⟨⟨_, hcc 0 _ rfl⟩, hfr 0⟩
theorem CTest.set1 {base g cap : Nat} {ok : Nat → Prop} {cur : List S31} {w0 wS W : World} {i : Nat} {y : S31} (h : CTest base ok g cap w0 wS W (cur.set i y)) (hi : i < cur.length) (b : ByteArray) : CTest base ok g cap w0 wS (W.setCell ⟨g, i * 4 + 1, none⟩ (Value.string b)) (cur.set i { y with f1 := b }) := by
 have hl : (cur.set i y).length = cur.length := List.length_set
 obtain ⟨oki, v2, v3, f, g2, g3,  hcc, hfr, hok, hH⟩ := CTest.elem i y h hi
 obtain ⟨h2, h3⟩ := Kd.S_seg0 hH (by omega) (by omega) (seg := [Value.string b]) (j := 1) (by show 1 + 1 ≤ 4; decide) (x' := { y with f1 := b }) (okp := oki) (kA31_mkF W base oki { y with f1 := b } f g2 g3) (fun _ hk => hk)
 rw [Int.toNat_natCast, set_set_] at h2
 have hlen : (cur.set i { y with f1 := b }).length = (cur.set i y).length := by rw [List.length_set, List.length_set]
 refine ⟨by rw [hlen]; exact h2, below_set h.bel (Nat.le_trans h.low h.own.2), h.kept.setCell (.inl h.own.1) _, h.low⟩
theorem CTest.at1 {base g cap : Nat} {ok : Nat → Prop} {cur : List S31} {w0 wS W : World} {i : Nat} {y : S31} (h : CTest base ok g cap w0 wS W (cur.set i y)) (hi : i < cur.length) : (∃ u, W.cell? ⟨g, i * 4 + 1, none⟩ = some (Value.string u)) ∧ W.frozen? ⟨g, i * 4 + 1, none⟩ = false := by
 obtain ⟨oki, v2, v3, f, g2, g3,  hcc, hfr, hok, hH⟩ := CTest.elem i y h hi
 exact ⟨⟨_, hcc 1 _ rfl⟩, hfr 1⟩
theorem CTest.row2 {base g cap : Nat} {ok : Nat → Prop} {cur : List S31} {w0 wS W : World} {i : Nat} {y : S31} (h : CTest base ok g cap w0 wS W (cur.set i y)) (hi : i < cur.length) :
  ∃ (vr : Value) (okr : Nat → Prop), W.cell? ⟨g, i * 4 + 2, none⟩ = some vr ∧ Kd.string.R 9 W w0.heap.size okr vr y.f2 ∧ (∀ k, okr k → ok k) ∧
   ∀ (W' : World) (r2 : List ByteArray), Kd.string.R 9 W' w0.heap.size (fun k_ => okr k_ ∨ W.heap.size ≤ k_) vr r2 → Below w0.heap.size w0 W' → Kept W W' (fun k_ => okr k_) → CTest base ok g cap w0 wS W' (cur.set i { y with f2 := r2 }) := by
 have hl : (cur.set i y).length = cur.length := List.length_set
 obtain ⟨oki, v2, v3, f, g2, g3,  hcc, hfr, hok, hH⟩ := CTest.elem i y h hi
 refine ⟨v2, (fun k => oki k ∧ f k = true), hcc 2 _ rfl, Kd.R_lower g2 h.low, (fun k hk => hok k hk.1), fun W' r2 hr hb hk => ?_⟩
 have hr2 := Kd.R_reok (d := Kd.string) rfl (Kd.R_raise (d := Kd.string) (b := w0.heap.size) (b' := base) (fun _ _ _ _ h_ => h_) hr (Kd.R_base g2)) (g2.1)
 have h2 := Kd.H_back (Kd.H_kept hH hk (fun _ _ hn => fun hs => hn hs.1)) (x' := { y with f2 := r2 }) (okp := oki) (kA31_mkF W' base oki { y with f2 := r2 } f hr2 (Kd.R_kept g3 hk (fun k_ h1_ h2_ => absurd (h1_.2.symm.trans h2_.2) (by decide)))) (fun _ hk => hk)
 rw [Int.toNat_natCast, set_set_] at h2
 have hlen : (cur.set i { y with f2 := r2 }).length = (cur.set i y).length := by rw [List.length_set, List.length_set]
 exact ⟨by rw [hlen]; exact h2, hb, h.kept.then_ hk (fun k hk' => .inl (hok k hk'.1)), h.low⟩
theorem CTest.row3 {base g cap : Nat} {ok : Nat → Prop} {cur : List S31} {w0 wS W : World} {i : Nat} {y : S31} (h : CTest base ok g cap w0 wS W (cur.set i y)) (hi : i < cur.length) :
  ∃ (vr : Value) (okr : Nat → Prop), W.cell? ⟨g, i * 4 + 3, none⟩ = some vr ∧ Kd.string.R 9 W w0.heap.size okr vr y.f3 ∧ (∀ k, okr k → ok k) ∧
   ∀ (W' : World) (r2 : List ByteArray), Kd.string.R 9 W' w0.heap.size (fun k_ => okr k_ ∨ W.heap.size ≤ k_) vr r2 → Below w0.heap.size w0 W' → Kept W W' (fun k_ => okr k_) → CTest base ok g cap w0 wS W' (cur.set i { y with f3 := r2 }) := by
 have hl : (cur.set i y).length = cur.length := List.length_set
 obtain ⟨oki, v2, v3, f, g2, g3,  hcc, hfr, hok, hH⟩ := CTest.elem i y h hi
 refine ⟨v3, (fun k => oki k ∧ f k = false), hcc 3 _ rfl, Kd.R_lower g3 h.low, (fun k hk => hok k hk.1), fun W' r2 hr hb hk => ?_⟩
 have hr2 := Kd.R_reok (d := Kd.string) rfl (Kd.R_raise (d := Kd.string) (b := w0.heap.size) (b' := base) (fun _ _ _ _ h_ => h_) hr (Kd.R_base g3)) (g3.1)
 have h2 := Kd.H_back (Kd.H_kept hH hk (fun _ _ hn => fun hs => hn hs.1)) (x' := { y with f3 := r2 }) (okp := oki) (kA31_mkF W' base oki { y with f3 := r2 } f (Kd.R_kept g2 hk (fun k_ h1_ h2_ => absurd (h1_.2.symm.trans h2_.2) (by decide))) hr2) (fun _ hk => hk)
 rw [Int.toNat_natCast, set_set_] at h2
 have hlen : (cur.set i { y with f3 := r2 }).length = (cur.set i y).length := by rw [List.length_set, List.length_set]
 exact ⟨by rw [hlen]; exact h2, hb, h.kept.then_ hk (fun k hk' => .inl (hok k hk'.1)), h.low⟩
def laws_markTestS.g : Nat → List S31 → Int → Option (Int × List S31)
 | _, [], a => some (a, [])
 | k, x :: t, a => (laws_markText.f k (a)).bind fun t0 => (laws_markText.f k (wrap64 (a + 1))).bind fun t1 => (laws_markStringS.f k x.f2 (wrap64 (wrap64 (a + 1) + 1))).bind fun p2 => (laws_markStringS.f k x.f3 (p2.1)).bind fun p3 => (laws_markTestS.g k t (p3.1)).bind fun q => some (q.1, (⟨t0, t1, p2.2, p3.2⟩ : S31) :: q.2)
theorem laws_markTestS.g_mono (k : Nat) : ∀ t a, LeO (laws_markTestS.g k t a) (laws_markTestS.g (k + 1) t a)
 | [], a => LeO.refl _
 | x :: t, a => LeO.bind (laws_markText.mono _ _) (fun _ => LeO.bind (laws_markText.mono _ _) (fun _ => LeO.bind (laws_markStringS.mono _ _ _) (fun _ => LeO.bind (laws_markStringS.mono _ _ _) (fun _ => LeO.bind (laws_markTestS.g_mono k t _) (fun _ => LeO.refl _)))))
set_option maxHeartbeats 8000000 in
set_option maxRecDepth 100000 in
theorem laws_markTestS.walkC (k : Nat) (A : Option Addr) (g cap : Nat) (l0 : List S31) (a1 r1 : Int) (L' : List S31) (base : Nat) (ok : Nat → Prop) (w0 w : World) (hA : 0 < l0.length → A = some ⟨g, 0, none⟩ ∧ CTest base ok g cap w0 w w l0) (hB : Below w0.heap.size w0 w) (hn : l0.length ≤ 9223372036854775807) (h : laws_markTestS.g k l0 a1 = some (r1, L')) :
  Calls Try.prog 18 #[.slice A l0.length cap, .int .i64 a1] w fun e w' => e = .returned (.int .i64 r1) ∧ CCase_ l0.length (CTest base ok g cap w0 w w' L' ∧ L'.length = l0.length) (w' = w ∧ L' = []) := by
 have HA := Aside0.mk hA
 have H := Aside0.mk h
 clear hA h
 go_enter Try.func18, Try.ntmps18
 go_wp2
 go_loopg [1, 5] l0.length (fun gg v1 v5 wr => ∃ (x1 x5 : Int) (m : Nat) (cur rest : List S31), v1 = .int .i64 x1 ∧ v5 = .int .i64 x5 ∧ Aside0 (0 ≤ x5 ∧ x5.toNat + m = l0.length) ∧ m ≤ gg ∧ Aside0 (laws_markTestS.g k (cur.drop x5.toNat) x1 = some (r1, rest) ∧ cur.take x5.toNat ++ rest = L' ∧ cur.length = l0.length) ∧ Aside0 (CCase_ l0.length (CTest base ok g cap w0 w wr cur) (wr = w)))
 case atStart => exact ⟨a1, 0, l0.length, l0, L', rfl, rfl, ⟨by decide, by simp⟩, Nat.le_refl _, ⟨H.out, rfl, rfl⟩, ⟨⟨fun hp => (HA.out hp).2, fun _ => rfl⟩⟩⟩
 case round =>
  clear H
  obtain ⟨x1, x5, m, cur, rest, rfl, rfl, HM, hg, H, MV⟩ := hrel
  cases m with
  | zero =>
   have c3b0 : decide (x5 < (l0.length : Int)) = false := decide_eq_false (by have := HM.out; omega)
   obtain ⟨hr, hL, hl⟩ := H.out
   rw [List.drop_of_length_le (by have := HM.out; omega)] at hr
   rw [List.take_of_length_le (by have := HM.out; omega)] at hL
   unfold laws_markTestS.g at hr
   injection hr with hr
   injection hr with hr1 hr2
   subst hr1
   subst hr2
   rw [List.append_nil] at hL
   subst hL
   clear H hg
   go_wp2
   go_ret
   refine ⟨rfl, ?_⟩
   exact ⟨fun hp => ⟨MV.out.1 hp, hl⟩, fun hp => ⟨MV.out.2 hp, List.eq_nil_of_length_eq_zero (by omega)⟩⟩
  | succ m =>
   have c3b0 : decide (x5 < (l0.length : Int)) = true := decide_eq_true (by have := HM.out; omega)
   have p6 : (0 ≤ x5) = True := eq_true HM.out.1
   have q6 : (x5 < (l0.length : Int)) = True := eq_true (by have := HM.out; omega)
   obtain ⟨hr, hL, hl⟩ := H.out
   have HLT := Aside0.mk (show x5.toNat < cur.length by have := HM.out; omega)
   have hp0 : 0 < l0.length := by have := HM.out; omega
   have HL := Aside0.mk hl
   obtain ⟨x, hx⟩ : ∃ x, x = cur[x5.toNat]'HLT.out := ⟨_, rfl⟩
   have HX := Aside0.mk hx
   rw [List.drop_eq_getElem_cons HLT.out, ← hx] at hr
   have hmv := MV.out.1 hp0
   rw [← set_get_ cur x5.toNat HLT.out, ← hx] at hmv
   clear MV
   have MV := Aside0.mk hmv
   clear hx H hmv hl
   have HTK := Aside0.mk hL
   clear hL
   unfold laws_markTestS.g at hr
   obtain ⟨t0, A00, hr⟩ := Option.bind_eq_some_iff.mp hr
   have A0 := Aside0.mk A00
   clear A00
   obtain ⟨t1, A10, hr⟩ := Option.bind_eq_some_iff.mp hr
   have A1 := Aside0.mk A10
   clear A10
   obtain ⟨p2, A20, hr⟩ := Option.bind_eq_some_iff.mp hr
   have A2 := Aside0.mk A20
   clear A20
   obtain ⟨p3, A30, hr⟩ := Option.bind_eq_some_iff.mp hr
   have A3 := Aside0.mk A30
   clear A30
   obtain ⟨q, Aq0, hr⟩ := Option.bind_eq_some_iff.mp hr
   injection hr with hr
   injection hr with hr1 hr2
   have H := Aside0.mk (⟨hr1, hr2, Aq0⟩ : _ ∧ _ ∧ _)
   clear hr1 hr2 Aq0
   have eA := (HA.out hp0).1
   subst eA
   have HP := Aside0.mk hp0
   clear hp0
   go_wp2_with (first | ((with_reducible refine gate_callee (f := 41) rfl ?_); refine goesL_ (some 15) rfl rfl Try.func41 (by kernel_rfl) rfl #[.int .i64 (x1)] rfl (by (try simp only [List.map_toArray, List.map_cons, List.map_nil]); first | done | rfl) ?_; (with_reducible refine (laws_markText.calls k (x1) t0 _ A0.out).mono ?_); rintro e w1 ⟨rfl, hb⟩; refine ⟨_, rfl, ?_⟩; replace MV := Aside0.mk (MV.out.below hb); clear hb; obtain ⟨⟨s0_, hx0_⟩, hf0_⟩ := MV.out.at0 HLT.out) | ((with_reducible refine gate_store (t := 9) (p := 17) rfl ?_); refine store_event (t := 9) (p := 17) (v := ?vo_w2) (w1 := (w1.setCell ⟨g, (x5 : Int).toNat * 4, none⟩ (.string t0))) ?hg ?ho ?hn ?hr ?_; (case ho => rfl); (case hg => rfl); (case hn => rfl); (case hr => first | (go_simp; done) | (go_simp; rfl)); intro w2 hw; replace MV := Aside0.mk (show CTest base ok g cap w0 w w2 (cur.set x5.toNat (⟨t0, x.f1, x.f2, x.f3⟩ : S31)) by rw [hw]; exact MV.out.set0 HLT.out _); clear hw) | ((with_reducible refine gate_callee (f := 41) rfl ?_); refine goesL_ (some 23) rfl rfl Try.func41 (by kernel_rfl) rfl #[.int .i64 (wrap64 (x1 + 1))] rfl (by (try simp only [List.map_toArray, List.map_cons, List.map_nil]); first | done | rfl) ?_; (with_reducible refine (laws_markText.calls k (wrap64 (x1 + 1)) t1 _ A1.out).mono ?_); rintro e w3 ⟨rfl, hb⟩; refine ⟨_, rfl, ?_⟩; replace MV := Aside0.mk (MV.out.below hb); clear hb; obtain ⟨⟨s1_, hx1_⟩, hf1_⟩ := MV.out.at1 HLT.out) | ((with_reducible refine gate_store (t := 9) (p := 25) rfl ?_); refine store_event (t := 9) (p := 25) (v := ?vo_w4) (w1 := (w3.setCell ⟨g, (x5 : Int).toNat * 4 + 1, none⟩ (.string t1))) ?hg ?ho ?hn ?hr ?_; (case ho => rfl); (case hg => rfl); (case hn => rfl); (case hr => first | (go_simp; done) | (go_simp; rfl)); intro w4 hw; replace MV := Aside0.mk (show CTest base ok g cap w0 w w4 (cur.set x5.toNat (⟨t0, t1, x.f2, x.f3⟩ : S31)) by rw [hw]; exact MV.out.set1 HLT.out _); clear hw; obtain ⟨v2_, oki2_, hx2_, hR2_, _, hput2_⟩ := MV.out.row2 HLT.out) | ((with_reducible refine gate_callee (f := 19) rfl ?_); refine goesL_ (some 34) rfl rfl Try.func19 (by kernel_rfl) rfl #[v2_, .int .i64 (wrap64 (wrap64 (x1 + 1) + 1))] rfl (by (try simp only [List.map_toArray, List.map_cons, List.map_nil]); first | done | rfl) ?_; refine (laws_markStringS.calls k oki2_ v2_ x.f2 (wrap64 (wrap64 (x1 + 1) + 1)) p2.1 p2.2 w0 _ MV.out.bel hR2_ A2.out).mono ?_; rintro e w5 ⟨rfl, hr2_, hb2_, hk2_⟩; refine ⟨_, rfl, ?_⟩; replace MV := Aside0.mk (show CTest base ok g cap w0 w w5 (cur.set x5.toNat (⟨t0, t1, p2.2, x.f3⟩ : S31)) from hput2_ _ _ hr2_ hb2_ hk2_); clear hr2_ hb2_ hk2_ hput2_ hR2_; obtain ⟨v3_, oki3_, hx3_, hR3_, _, hput3_⟩ := MV.out.row3 HLT.out) | ((with_reducible refine gate_callee (f := 19) rfl ?_); refine goesL_ (some 41) rfl rfl Try.func19 (by kernel_rfl) rfl #[v3_, .int .i64 (p2.1)] rfl (by (try simp only [List.map_toArray, List.map_cons, List.map_nil]); first | done | rfl) ?_; refine (laws_markStringS.calls k oki3_ v3_ x.f3 (p2.1) p3.1 p3.2 w0 _ MV.out.bel hR3_ A3.out).mono ?_; rintro e w6 ⟨rfl, hr2_, hb2_, hk2_⟩; refine ⟨_, rfl, ?_⟩; replace MV := Aside0.mk (show CTest base ok g cap w0 w w6 (cur.set x5.toNat (⟨t0, t1, p2.2, p3.2⟩ : S31)) from hput3_ _ _ hr2_ hb2_ hk2_); clear hr2_ hb2_ hk2_ hput3_ hR3_))
   go_roundg m
   case measure => omega
   case rel => exact ⟨(p3.1), (wrap64 (x5 + 1)), m, cur.set x5.toNat (⟨t0, t1, p2.2, p3.2⟩ : S31), q.2, (by first | rfl | (simp; done) | (simp [*]; done)), (by first | rfl | (simp; done) | (simp [*]; done)), ⟨by have := HM.out; rw [show wrap64 (x5 + 1) = x5 + 1 from by unfold wrap64; omega]; omega⟩, by omega, ⟨by
    have := HM.out
    rw [show (wrap64 (x5 + 1)).toNat = x5.toNat + 1 from by unfold wrap64; omega]
    obtain ⟨e1, e2, e3⟩ := H.out
    refine ⟨by rw [drop_set_ _ _ _, ← e1]; exact e3, ?_, by rw [List.length_set]; exact HL.out⟩
    rw [take_set_ _ _ _ HLT.out, List.append_assoc]
    rw [← e2] at HTK
    exact HTK.out⟩, ⟨⟨fun _ => MV.out, fun h => absurd h (by have := HP.out; omega)⟩⟩⟩
/-- .. as the laws call it: what stands in the row behind it; of what stood before only blocks in ok are turned. -/
theorem laws_markTestS.callsC (k : Nat) (A : Option Addr) (c : Nat) (l0 : List S31) (a1 r1 : Int) (L' : List S31) (base : Nat) (ok : Nat → Prop) (w0 w : World) (hB : Below w0.heap.size w0 w) (hlow : w0.heap.size ≤ base) (ho : Kd.S kA31 31 w base ok (.slice A l0.length c) l0) (h : laws_markTestS.g k l0 a1 = some (r1, L')) :
  Calls Try.prog 18 #[.slice A l0.length c, .int .i64 a1] w fun e w' => e = .returned (.int .i64 r1) ∧ Kd.S kA31 31 w' base ok (.slice A l0.length c) L' ∧ Below w0.heap.size w0 w' ∧ Kept w w' ok ∧ L'.length = l0.length := by
 have hn : l0.length ≤ 9223372036854775807 := by have := (Kd.R_reads' (Kd.S_R ho)).2.2.2.1; omega
 by_cases hp : 0 < l0.length
 ·obtain ⟨g, cap, hv, _⟩ := Kd.S_form ho hp
  injection hv with hA _ hc
  subst hA
  subst hc
  refine (laws_markTestS.walkC k _ g c l0 a1 r1 L' base ok w0 w (fun _ => ⟨rfl, ho, hB, Kept.refl _ _, hlow⟩) hB hn h).mono ?_
  rintro e w' ⟨rfl, h2⟩
  replace h2 := h2.1 hp
  refine ⟨rfl, ?_, h2.1.bel, h2.1.kept, h2.2⟩
  have := h2.1.row
  rw [h2.2] at this
  exact this
 ·refine (laws_markTestS.walkC k A 0 c l0 a1 r1 L' base ok w0 w (fun h => absurd h hp) hB hn h).mono ?_
  rintro e w' ⟨rfl, h2⟩
  obtain ⟨rfl, rfl⟩ := h2.2 (by omega)
  have hl : l0 = [] := List.eq_nil_of_length_eq_zero (by omega)
  subst hl
  exact ⟨rfl, ho, hB, Kept.refl _ _, rfl⟩
/-- A row of the call's own, told apart from the others by when it was made. -/
structure RowAt {α : Type} (d : Kd α) (e lo hi : Nat) (v : Value) (l : List α) (W : World) : Prop where
 row : Kd.S d e W lo (fun k => lo ≤ k ∧ k < hi) v l
 top : hi ≤ W.heap.size
section
variable {α : Type} {d : Kd α} {e lo hi : Nat} {v : Value} {l : List α} {W W' : World}
theorem RowAt.below (h : RowAt d e lo hi v l W) (hb : Below W.heap.size W W') : RowAt d e lo hi v l W' := ⟨Kd.S_below h.row hb, Nat.le_trans h.top hb.size⟩
theorem RowAt.kept {S : Nat → Prop} (h : RowAt d e lo hi v l W) (hk : Kept W W' S) (hne : ∀ k, lo ≤ k → k < hi → ¬ S k) : RowAt d e lo hi v l W' := ⟨Kd.S_kept h.row hk (fun k hk' => hne k hk'.1 hk'.2), Nat.le_trans h.top hk.1⟩
theorem RowAt.alloc (h : RowAt d e lo hi v l W) (o : Obj) : RowAt d e lo hi v l (W.alloc o) := h.below (below_alloc (Below.refl _ _) o)
theorem RowAt.drew (h : RowAt d e lo hi v l W) : RowAt d e lo hi v l W.drew := h.below (below_drew (Below.refl _ _))
theorem RowAt.drewN (h : RowAt d e lo hi v l W) (m : Nat) : RowAt d e lo hi v l (W.drewN m) := h.below (pw_below_drewN (Below.refl _ _) m)
theorem RowAt.made (ho : Kd.S d e W' W.heap.size (fun _ => True) v l) : RowAt d e W.heap.size W'.heap.size v l W' := ⟨Kd.S_mono (Kd.S_bound ho) (fun k hk => ⟨hk.2.1, hk.2.2.1⟩), Nat.le_refl _⟩
theorem RowAt.C {A : Option Addr} {n c : Nat} (h : RowAt d e lo hi (.slice A n c) l W) : d.C W A l.length l := (Kd.S_reads' h.row).2.2
theorem RowAt.cap {A : Option Addr} {n c : Nat} (h : RowAt d e lo hi (.slice A n c) l W) : l.length ≤ c := by
 obtain ⟨h1, h2, _⟩ := Kd.S_reads' h.row
 omega
end
def laws_FnExactGroupModules.f (k : Nat) (l0 : List S52) : Option Bool := (laws_szTestS.f k l0 1048576).bind fun t => if t < 0 then some true else (laws_toTestS.f k l0).bind fun x => (spec_GroupModules.f k x).bind fun w => (impl_GroupModules.f k x).bind fun g => (laws_eqTestS.f k g w).bind fun b1 => (laws_eqTestS.f k x x).bind fun b2 => (laws_markTestS.f k x 1).bind fun m1 => (laws_markTestS.g k g 1).bind fun m2 => (laws_heldTestS.f k m2.2 1).bind fun q => if b1 = true ∧ b2 = true ∧ 0 ≤ m1 ∧ 0 ≤ q ∧ q = m2.1 then some true else none
theorem if_some_ {p : Prop} [Decidable p] {a r : Bool} (h : (if p then some a else none) = some r) : p ∧ a = r := by
 split at h
 ·exact ⟨by assumption, Option.some.inj h⟩
 ·cases h
theorem laws_FnExactGroupModules.mono : ∀ a0 k, LeO (laws_FnExactGroupModules.f k a0) (laws_FnExactGroupModules.f (k + 1) a0) := by
 intro a0 k
 unfold laws_FnExactGroupModules.f
 refine LeO.bind (laws_szTestS.mono _ _ _) (fun _ => LeO.ite (LeO.refl _) ?_)
 refine LeO.bind (laws_toTestS.mono _ _) (fun _ => LeO.bind (spec_GroupModules.mono _ _) (fun _ => LeO.bind (impl_GroupModules.mono _ _) (fun _ => LeO.bind (laws_eqTestS.mono _ _ _) (fun _ => LeO.bind (laws_eqTestS.mono _ _ _) (fun _ => LeO.bind (laws_markTestS.mono _ _ _) (fun _ => LeO.bind (laws_markTestS.g_mono _ _ _) (fun _ => LeO.bind (laws_heldTestS.mono _ _ _) (fun _ => LeO.refl _))))))))
set_option maxHeartbeats 16000000 in
set_option maxRecDepth 100000 in
theorem laws_FnExactGroupModules.calls (k : Nat) (A0 : Option Addr) (c0 : Nat) (l0 : List S52) (r : Bool) (w : World) (hr0 : Kd.C k52 w A0 l0.length l0) (hc0 : l0.length ≤ c0) (h : laws_FnExactGroupModules.f k l0 = some r) :
  Calls Try.prog 6 #[.slice A0 l0.length c0] w fun e w' => e = .returned (.bool r) ∧ Below w.heap.size w w' := by
 have HR0 := Aside0.mk hr0
 have HC0 := Aside0.mk hc0
 have HB := Aside0.mk (Below.refl w.heap.size w)
 clear hr0 hc0
 unfold laws_FnExactGroupModules.f at h
 obtain ⟨t, h0, h⟩ := Option.bind_eq_some_iff.mp h
 have H0 := Aside0.mk h0
 clear h0
 by_cases c : t < 0
 ·rw [if_pos c] at h
  obtain rfl := Option.some.inj h
  have c1b0 : decide (t < 0) = true := decide_eq_true c
  clear c h
  go_enter Try.func6, Try.ntmps6
  go_wp2_with (first | ((with_reducible refine gate_callee (f := 12) rfl ?_); refine goesL_ (some 13) rfl rfl Try.func12 (by kernel_rfl) rfl #[.slice A0 l0.length c0, .int .i64 1048576] rfl (by (try simp only [List.map_toArray, List.map_cons, List.map_nil]); first | done | rfl) ?_; refine (laws_szTestS.calls k _ _ l0 1048576 t _ (Kd.C_below HR0.out (by repeat first | (with_reducible first | exact HB.out | apply below_alloc | apply pw_below_drewN | apply below_drew1) | exact HB.out)) HC0.out H0.out).mono ?_; rintro e W1 ⟨rfl, hb⟩; refine ⟨_, rfl, ?_⟩; have nB_ := Aside0.mk (below_step (by repeat first | (with_reducible first | exact HB.out | apply below_alloc | apply pw_below_drewN | apply below_drew1) | exact HB.out) hb); clear HB; have HB := nB_; clear nB_; (try clear hb)))
  go_ret
  exact ⟨rfl, HB.out⟩
 ·rw [if_neg c] at h
  have c1b0 : decide (t < 0) = false := decide_eq_false c
  clear c
  replace h := Option.bind_eq_some_iff.mp h
  obtain ⟨x, h1, h⟩ := h
  replace h := Option.bind_eq_some_iff.mp h
  obtain ⟨w1, h2, h⟩ := h
  replace h := Option.bind_eq_some_iff.mp h
  obtain ⟨g1, h3, h⟩ := h
  replace h := Option.bind_eq_some_iff.mp h
  obtain ⟨b1, h4, h⟩ := h
  replace h := Option.bind_eq_some_iff.mp h
  obtain ⟨b2, h5, h⟩ := h
  replace h := Option.bind_eq_some_iff.mp h
  obtain ⟨m1, h6, h⟩ := h
  replace h := Option.bind_eq_some_iff.mp h
  obtain ⟨⟨m2, l2⟩, h7, h⟩ := h
  replace h := Option.bind_eq_some_iff.mp h
  obtain ⟨q, h8, h⟩ := h
  obtain ⟨⟨rfl, rfl, hm1, hq, hqm⟩, rfl⟩ := if_some_ h
  have hqm' : q = m2 := hqm
  subst hqm'
  have H1 := Aside0.mk h1
  have H2 := Aside0.mk h2
  have H3 := Aside0.mk h3
  have H4 : Aside0 (laws_eqTestS.f k g1 w1 = some true) := ⟨h4⟩
  have H5 := Aside0.mk h5
  have H6 := Aside0.mk h6
  have H7 : Aside0 (laws_markTestS.g k g1 1 = some (q, l2)) := ⟨h7⟩
  have H8 : Aside0 (laws_heldTestS.f k l2 1 = some q) := ⟨h8⟩
  have c2b0 : decide (m1 < 0) = false := decide_eq_false (by have h_ : 0 ≤ m1 := hm1; omega)
  have c3b0 : decide (q < 0) = false := decide_eq_false (by omega)
  have c4b0 : (q == q) = true := beq_self_eq_true q
  have c4b1 : (q != q) = false := bne_self_eq_false q
  clear h h1 h2 h3 h4 h5 h6 h7 h8 hm1 hq hqm
  go_enter Try.func6, Try.ntmps6
  go_wp2_with (first | ((with_reducible refine gate_callee (f := 12) rfl ?_); refine goesL_ (some 13) rfl rfl Try.func12 (by kernel_rfl) rfl #[.slice A0 l0.length c0, .int .i64 1048576] rfl (by (try simp only [List.map_toArray, List.map_cons, List.map_nil]); first | done | rfl) ?_; refine (laws_szTestS.calls k _ _ l0 1048576 t _ (Kd.C_below HR0.out (by repeat first | (with_reducible first | exact HB.out | apply below_alloc | apply pw_below_drewN | apply below_drew1) | exact HB.out)) HC0.out H0.out).mono ?_; rintro e W1 ⟨rfl, hb⟩; refine ⟨_, rfl, ?_⟩; have nB_ := Aside0.mk (below_step (by repeat first | (with_reducible first | exact HB.out | apply below_alloc | apply pw_below_drewN | apply below_drew1) | exact HB.out) hb); clear HB; have HB := nB_; clear nB_; (try clear hb)) | ((with_reducible refine gate_callee (f := 14) rfl ?_); refine goesL_ (some 17) rfl rfl Try.func14 (by kernel_rfl) rfl #[.slice A0 l0.length c0] rfl (by (try simp only [List.map_toArray, List.map_cons, List.map_nil]); first | done | rfl) ?_; refine (laws_toTestS.calls k _ _ l0 x _ (Kd.C_below HR0.out (by repeat first | (with_reducible first | exact HB.out | apply below_alloc | apply pw_below_drewN | apply below_drew1) | exact HB.out)) HC0.out H1.out).mono ?_; rintro e W2 ⟨vr_, rfl, ho0, hb⟩; refine ⟨_, rfl, ?_⟩; obtain ⟨loa, hia, l1_, l2_, hX_⟩ : ∃ lo hi, w.heap.size ≤ lo ∧ lo ≤ hi ∧ RowAt k31 31 lo hi vr_ x W2 := ⟨_, _, below_size (by repeat first | (with_reducible first | exact HB.out | apply below_alloc | apply pw_below_drewN | apply below_drew1) | exact HB.out), hb.size, RowAt.made ho0⟩; have nB_ := Aside0.mk (below_step (by repeat first | (with_reducible first | exact HB.out | apply below_alloc | apply pw_below_drewN | apply below_drew1) | exact HB.out) hb); clear HB; have HB := nB_; clear nB_; have La := Aside0.mk (⟨l1_, l2_⟩ : _ ∧ _); clear l1_ l2_; have HXa := Aside0.mk hX_; clear hX_; obtain ⟨Aa, ca, eo_⟩ := Kd.S_slice HXa.out.row; subst eo_; (try clear hb); (try clear ho0)) | ((with_reducible refine gate_callee (f := 23) rfl ?_); refine goesL_ (some 18) rfl rfl Try.func23 (by kernel_rfl) rfl #[.slice Aa x.length ca] rfl (by (try simp only [List.map_toArray, List.map_cons, List.map_nil]); first | done | rfl) ?_; refine (spec_GroupModules.calls k _ _ x w1 _ (RowAt.C (by (with_reducible repeat (first | apply RowAt.alloc | apply RowAt.drewN | apply RowAt.drew)); exact HXa.out)) (RowAt.cap HXa.out) H2.out).mono ?_; rintro e W3 ⟨vr_, rfl, ho0, hb⟩; refine ⟨_, rfl, ?_⟩; obtain ⟨low, hiw, l1_, l2_, hX_⟩ : ∃ lo hi, hia ≤ lo ∧ lo ≤ hi ∧ RowAt k31 31 lo hi vr_ w1 W3 := ⟨_, _, RowAt.top (by (with_reducible repeat (first | apply RowAt.alloc | apply RowAt.drewN | apply RowAt.drew)); exact HXa.out), hb.size, RowAt.made ho0⟩; have nX_ := Aside0.mk (RowAt.below (by (with_reducible repeat (first | apply RowAt.alloc | apply RowAt.drewN | apply RowAt.drew)); exact HXa.out) hb); clear HXa; have HXa := nX_; clear nX_; have nB_ := Aside0.mk (below_step (by repeat first | (with_reducible first | exact HB.out | apply below_alloc | apply pw_below_drewN | apply below_drew1) | exact HB.out) hb); clear HB; have HB := nB_; clear nB_; have Lw := Aside0.mk (⟨l1_, l2_⟩ : _ ∧ _); clear l1_ l2_; have HXw := Aside0.mk hX_; clear hX_; obtain ⟨Aw, cw, eo_⟩ := Kd.S_slice HXw.out.row; subst eo_; (try clear hb); (try clear ho0); clear HXa) | ((with_reducible refine gate_callee (f := 14) rfl ?_); refine goesL_ (some 20) rfl rfl Try.func14 (by kernel_rfl) rfl #[.slice A0 l0.length c0] rfl (by (try simp only [List.map_toArray, List.map_cons, List.map_nil]); first | done | rfl) ?_; refine (laws_toTestS.calls k _ _ l0 x _ (Kd.C_below HR0.out (by repeat first | (with_reducible first | exact HB.out | apply below_alloc | apply pw_below_drewN | apply below_drew1) | exact HB.out)) HC0.out H1.out).mono ?_; rintro e W4 ⟨vr_, rfl, ho0, hb⟩; refine ⟨_, rfl, ?_⟩; obtain ⟨lob, hib, l1_, l2_, hX_⟩ : ∃ lo hi, hiw ≤ lo ∧ lo ≤ hi ∧ RowAt k31 31 lo hi vr_ x W4 := ⟨_, _, RowAt.top (by (with_reducible repeat (first | apply RowAt.alloc | apply RowAt.drewN | apply RowAt.drew)); exact HXw.out), hb.size, RowAt.made ho0⟩; have nX_ := Aside0.mk (RowAt.below (by (with_reducible repeat (first | apply RowAt.alloc | apply RowAt.drewN | apply RowAt.drew)); exact HXw.out) hb); clear HXw; have HXw := nX_; clear nX_; have nB_ := Aside0.mk (below_step (by repeat first | (with_reducible first | exact HB.out | apply below_alloc | apply pw_below_drewN | apply below_drew1) | exact HB.out) hb); clear HB; have HB := nB_; clear nB_; have Lb := Aside0.mk (⟨l1_, l2_⟩ : _ ∧ _); clear l1_ l2_; have HXb := Aside0.mk hX_; clear hX_; obtain ⟨Ab, cb, eo_⟩ := Kd.S_slice HXb.out.row; subst eo_; (try clear hb); (try clear ho0)) | ((with_reducible refine gate_callee (f := 24) rfl ?_); refine goesL_ (some 22) rfl rfl Try.func24 (by kernel_rfl) rfl #[.slice Ab x.length cb] rfl (by (try simp only [List.map_toArray, List.map_cons, List.map_nil]); first | done | rfl) ?_; refine (impl_GroupModules.calls k (fun k_ => lob ≤ k_ ∧ k_ < hib) _ _ x g1 _ (Kd.S_V (RowAt.row (by (with_reducible repeat (first | apply RowAt.alloc | apply RowAt.drewN | apply RowAt.drew)); exact HXb.out))) H3.out).mono ?_; rintro e W5 ⟨vr_, rfl, ho0, hb⟩; refine ⟨_, rfl, ?_⟩; obtain ⟨log, hig, l1_, l2_, hX_⟩ : ∃ lo hi, hib ≤ lo ∧ lo ≤ hi ∧ RowAt kA31 31 lo hi vr_ g1 W5 := ⟨_, _, RowAt.top (by (with_reducible repeat (first | apply RowAt.alloc | apply RowAt.drewN | apply RowAt.drew)); exact HXb.out), hb.size, RowAt.made ho0⟩; have nX_ := Aside0.mk (RowAt.below (by (with_reducible repeat (first | apply RowAt.alloc | apply RowAt.drewN | apply RowAt.drew)); exact HXw.out) hb); clear HXw; have HXw := nX_; clear nX_; have nX_ := Aside0.mk (RowAt.below (by (with_reducible repeat (first | apply RowAt.alloc | apply RowAt.drewN | apply RowAt.drew)); exact HXb.out) hb); clear HXb; have HXb := nX_; clear nX_; have nB_ := Aside0.mk (below_step (by repeat first | (with_reducible first | exact HB.out | apply below_alloc | apply pw_below_drewN | apply below_drew1) | exact HB.out) hb); clear HB; have HB := nB_; clear nB_; have Lg := Aside0.mk (⟨l1_, l2_⟩ : _ ∧ _); clear l1_ l2_; have HXg := Aside0.mk hX_; clear hX_; obtain ⟨Ag, cg, eo_⟩ := Kd.S_slice HXg.out.row; subst eo_; (try clear hb); (try clear ho0)) | ((with_reducible refine gate_callee (f := 17) rfl ?_); refine goesL_ (some 25) rfl rfl Try.func17 (by kernel_rfl) rfl #[.slice Ag g1.length cg, .slice Aw w1.length cw] rfl (by (try simp only [List.map_toArray, List.map_cons, List.map_nil]); first | done | rfl) ?_; refine (laws_eqTestS.calls k _ _ g1 _ _ w1 true _ (kA31_C (RowAt.C (by (with_reducible repeat (first | apply RowAt.alloc | apply RowAt.drewN | apply RowAt.drew)); exact HXg.out))) (RowAt.cap HXg.out) (RowAt.C (by (with_reducible repeat (first | apply RowAt.alloc | apply RowAt.drewN | apply RowAt.drew)); exact HXw.out)) (RowAt.cap HXw.out) H4.out).mono ?_; rintro e W6 ⟨rfl, hb⟩; refine ⟨_, rfl, ?_⟩; have nX_ := Aside0.mk (RowAt.below (by (with_reducible repeat (first | apply RowAt.alloc | apply RowAt.drewN | apply RowAt.drew)); exact HXw.out) hb); clear HXw; have HXw := nX_; clear nX_; have nX_ := Aside0.mk (RowAt.below (by (with_reducible repeat (first | apply RowAt.alloc | apply RowAt.drewN | apply RowAt.drew)); exact HXb.out) hb); clear HXb; have HXb := nX_; clear nX_; have nX_ := Aside0.mk (RowAt.below (by (with_reducible repeat (first | apply RowAt.alloc | apply RowAt.drewN | apply RowAt.drew)); exact HXg.out) hb); clear HXg; have HXg := nX_; clear nX_; have nB_ := Aside0.mk (below_step (by repeat first | (with_reducible first | exact HB.out | apply below_alloc | apply pw_below_drewN | apply below_drew1) | exact HB.out) hb); clear HB; have HB := nB_; clear nB_; (try clear hb)) | ((with_reducible refine gate_callee (f := 14) rfl ?_); refine goesL_ (some 29) rfl rfl Try.func14 (by kernel_rfl) rfl #[.slice A0 l0.length c0] rfl (by (try simp only [List.map_toArray, List.map_cons, List.map_nil]); first | done | rfl) ?_; refine (laws_toTestS.calls k _ _ l0 x _ (Kd.C_below HR0.out (by repeat first | (with_reducible first | exact HB.out | apply below_alloc | apply pw_below_drewN | apply below_drew1) | exact HB.out)) HC0.out H1.out).mono ?_; rintro e W7 ⟨vr_, rfl, ho0, hb⟩; refine ⟨_, rfl, ?_⟩; obtain ⟨loc, hic, l1_, l2_, hX_⟩ : ∃ lo hi, hig ≤ lo ∧ lo ≤ hi ∧ RowAt k31 31 lo hi vr_ x W7 := ⟨_, _, RowAt.top (by (with_reducible repeat (first | apply RowAt.alloc | apply RowAt.drewN | apply RowAt.drew)); exact HXg.out), hb.size, RowAt.made ho0⟩; have nX_ := Aside0.mk (RowAt.below (by (with_reducible repeat (first | apply RowAt.alloc | apply RowAt.drewN | apply RowAt.drew)); exact HXw.out) hb); clear HXw; have HXw := nX_; clear nX_; have nX_ := Aside0.mk (RowAt.below (by (with_reducible repeat (first | apply RowAt.alloc | apply RowAt.drewN | apply RowAt.drew)); exact HXb.out) hb); clear HXb; have HXb := nX_; clear nX_; have nX_ := Aside0.mk (RowAt.below (by (with_reducible repeat (first | apply RowAt.alloc | apply RowAt.drewN | apply RowAt.drew)); exact HXg.out) hb); clear HXg; have HXg := nX_; clear nX_; have nB_ := Aside0.mk (below_step (by repeat first | (with_reducible first | exact HB.out | apply below_alloc | apply pw_below_drewN | apply below_drew1) | exact HB.out) hb); clear HB; have HB := nB_; clear nB_; have Lc := Aside0.mk (⟨l1_, l2_⟩ : _ ∧ _); clear l1_ l2_; have HXc := Aside0.mk hX_; clear hX_; obtain ⟨Ac, cc, eo_⟩ := Kd.S_slice HXc.out.row; subst eo_; (try clear hb); (try clear ho0)) | ((with_reducible refine gate_callee (f := 17) rfl ?_); refine goesL_ (some 30) rfl rfl Try.func17 (by kernel_rfl) rfl #[.slice Ab x.length cb, .slice Ac x.length cc] rfl (by (try simp only [List.map_toArray, List.map_cons, List.map_nil]); first | done | rfl) ?_; refine (laws_eqTestS.calls k _ _ x _ _ x true _ (RowAt.C (by (with_reducible repeat (first | apply RowAt.alloc | apply RowAt.drewN | apply RowAt.drew)); exact HXb.out)) (RowAt.cap HXb.out) (RowAt.C (by (with_reducible repeat (first | apply RowAt.alloc | apply RowAt.drewN | apply RowAt.drew)); exact HXc.out)) (RowAt.cap HXc.out) H5.out).mono ?_; rintro e W8 ⟨rfl, hb⟩; refine ⟨_, rfl, ?_⟩; have nX_ := Aside0.mk (RowAt.below (by (with_reducible repeat (first | apply RowAt.alloc | apply RowAt.drewN | apply RowAt.drew)); exact HXw.out) hb); clear HXw; have HXw := nX_; clear nX_; have nX_ := Aside0.mk (RowAt.below (by (with_reducible repeat (first | apply RowAt.alloc | apply RowAt.drewN | apply RowAt.drew)); exact HXb.out) hb); clear HXb; have HXb := nX_; clear nX_; have nX_ := Aside0.mk (RowAt.below (by (with_reducible repeat (first | apply RowAt.alloc | apply RowAt.drewN | apply RowAt.drew)); exact HXg.out) hb); clear HXg; have HXg := nX_; clear nX_; have nX_ := Aside0.mk (RowAt.below (by (with_reducible repeat (first | apply RowAt.alloc | apply RowAt.drewN | apply RowAt.drew)); exact HXc.out) hb); clear HXc; have HXc := nX_; clear nX_; have nB_ := Aside0.mk (below_step (by repeat first | (with_reducible first | exact HB.out | apply below_alloc | apply pw_below_drewN | apply below_drew1) | exact HB.out) hb); clear HB; have HB := nB_; clear nB_; (try clear hb); clear HXc) | ((with_reducible refine gate_callee (f := 18) rfl ?_); refine goesL_ (some 34) rfl rfl Try.func18 (by kernel_rfl) rfl #[.slice Ab x.length cb, .int .i64 1] rfl (by (try simp only [List.map_toArray, List.map_cons, List.map_nil]); first | done | rfl) ?_; refine (laws_markTestS.calls k (fun k_ => lob ≤ k_ ∧ k_ < hib) _ _ x 1 m1 lob w _ (by repeat first | (with_reducible first | exact HB.out | apply below_alloc | apply pw_below_drewN | apply below_drew1) | exact HB.out) (by have q1_ := La.out; have q2_ := Lw.out; have q3_ := Lb.out; have q4_ := Lg.out; omega) (Kd.S_R (RowAt.row (by (with_reducible repeat (first | apply RowAt.alloc | apply RowAt.drewN | apply RowAt.drew)); exact HXb.out))) H6.out).mono ?_; rintro e W9 ⟨rfl, hb, hkp⟩; refine ⟨_, rfl, ?_⟩; have nX_ := Aside0.mk (RowAt.kept (by (with_reducible repeat (first | apply RowAt.alloc | apply RowAt.drewN | apply RowAt.drew)); exact HXw.out) hkp (fun k_ h1_ h2_ hs_ => by have h3_ := hs_.1; have h4_ := hs_.2; have q1_ := La.out; have q2_ := Lw.out; have q3_ := Lb.out; have q4_ := Lg.out; omega)); clear HXw; have HXw := nX_; clear nX_; have nX_ := Aside0.mk (RowAt.kept (by (with_reducible repeat (first | apply RowAt.alloc | apply RowAt.drewN | apply RowAt.drew)); exact HXg.out) hkp (fun k_ h1_ h2_ hs_ => by have h3_ := hs_.1; have h4_ := hs_.2; have q1_ := La.out; have q2_ := Lw.out; have q3_ := Lb.out; have q4_ := Lg.out; omega)); clear HXg; have HXg := nX_; clear nX_; clear HXb; clear HB; have HB := Aside0.mk hb; clear hb hkp) | (go_at_call 17; refine (laws_eqTestS.calls k _ _ g1 _ _ w1 true _ (kA31_C (RowAt.C (by (with_reducible repeat (first | apply RowAt.alloc | apply RowAt.drewN | apply RowAt.drew)); exact HXg.out))) (RowAt.cap HXg.out) (RowAt.C (by (with_reducible repeat (first | apply RowAt.alloc | apply RowAt.drewN | apply RowAt.drew)); exact HXw.out)) (RowAt.cap HXw.out) H4.out).mono ?_; rintro e W10 ⟨rfl, hb⟩; have nX_ := Aside0.mk (RowAt.below (by (with_reducible repeat (first | apply RowAt.alloc | apply RowAt.drewN | apply RowAt.drew)); exact HXw.out) hb); clear HXw; have HXw := nX_; clear nX_; have nX_ := Aside0.mk (RowAt.below (by (with_reducible repeat (first | apply RowAt.alloc | apply RowAt.drewN | apply RowAt.drew)); exact HXg.out) hb); clear HXg; have HXg := nX_; clear nX_; have nB_ := Aside0.mk (below_step (by repeat first | (with_reducible first | exact HB.out | apply below_alloc | apply pw_below_drewN | apply below_drew1) | exact HB.out) hb); clear HB; have HB := nB_; clear nB_; (try clear hb)) | ((with_reducible refine gate_callee (f := 18) rfl ?_); refine goesL_ (some 45) rfl rfl Try.func18 (by kernel_rfl) rfl #[.slice Ag g1.length cg, .int .i64 1] rfl (by (try simp only [List.map_toArray, List.map_cons, List.map_nil]); first | done | rfl) ?_; refine (laws_markTestS.callsC k _ _ g1 1 q l2 log (fun k_ => log ≤ k_ ∧ k_ < hig) w _ (by repeat first | (with_reducible first | exact HB.out | apply below_alloc | apply pw_below_drewN | apply below_drew1) | exact HB.out) (by have q1_ := La.out; have q2_ := Lw.out; have q3_ := Lb.out; have q4_ := Lg.out; omega) (RowAt.row (by (with_reducible repeat (first | apply RowAt.alloc | apply RowAt.drewN | apply RowAt.drew)); exact HXg.out)) H7.out).mono ?_; rintro e W11 ⟨rfl, hr_, hb, hkp, hl_⟩; refine ⟨_, rfl, ?_⟩; have nX_ := Aside0.mk (RowAt.kept (by (with_reducible repeat (first | apply RowAt.alloc | apply RowAt.drewN | apply RowAt.drew)); exact HXw.out) hkp (fun k_ h1_ h2_ hs_ => by have h3_ := hs_.1; have h4_ := hs_.2; have q1_ := La.out; have q2_ := Lw.out; have q3_ := Lb.out; have q4_ := Lg.out; omega)); clear HXw; have HXw := nX_; clear nX_; have HXm : Aside0 (RowAt kA31 31 log hig (.slice Ag l2.length cg) l2 W11) := ⟨⟨by rw [hl_]; exact hr_, Nat.le_trans (RowAt.top (by (with_reducible repeat (first | apply RowAt.alloc | apply RowAt.drewN | apply RowAt.drew)); exact HXg.out)) hkp.1⟩⟩; have HLEN := Aside0.mk hl_; clear hl_; clear HXg; clear HB; have HB := Aside0.mk hb; clear hb hkp hr_) | ((with_reducible refine gate_callee (f := 25) rfl ?_); refine goesL_ (some 48) rfl rfl Try.func25 (by kernel_rfl) rfl #[.slice Ag g1.length cg, .int .i64 1] rfl (by (try simp only [List.map_toArray, List.map_cons, List.map_nil]); first | done | rfl) ?_; refine calls_of_args (args' := #[.slice Ag l2.length cg, .int .i64 1]) (by rw [HLEN.out]) ?_; refine (laws_heldTestS.calls k _ _ l2 1 q _ (kA31_C (RowAt.C (by (with_reducible repeat (first | apply RowAt.alloc | apply RowAt.drewN | apply RowAt.drew)); exact HXm.out))) (RowAt.cap HXm.out) H8.out).mono ?_; rintro e W12 ⟨rfl, hb⟩; refine ⟨_, rfl, ?_⟩; have nX_ := Aside0.mk (RowAt.below (by (with_reducible repeat (first | apply RowAt.alloc | apply RowAt.drewN | apply RowAt.drew)); exact HXw.out) hb); clear HXw; have HXw := nX_; clear nX_; have nX_ := Aside0.mk (RowAt.below (by (with_reducible repeat (first | apply RowAt.alloc | apply RowAt.drewN | apply RowAt.drew)); exact HXm.out) hb); clear HXm; have HXm := nX_; clear nX_; have nB_ := Aside0.mk (below_step (by repeat first | (with_reducible first | exact HB.out | apply below_alloc | apply pw_below_drewN | apply below_drew1) | exact HB.out) hb); clear HB; have HB := nB_; clear nB_; (try clear hb)) | ((with_reducible refine gate_callee (f := 14) rfl ?_); refine goesL_ (some 55) rfl rfl Try.func14 (by kernel_rfl) rfl #[.slice A0 l0.length c0] rfl (by (try simp only [List.map_toArray, List.map_cons, List.map_nil]); first | done | rfl) ?_; refine (laws_toTestS.calls k _ _ l0 x _ (Kd.C_below HR0.out (by repeat first | (with_reducible first | exact HB.out | apply below_alloc | apply pw_below_drewN | apply below_drew1) | exact HB.out)) HC0.out H1.out).mono ?_; rintro e W13 ⟨vr_, rfl, ho0, hb⟩; refine ⟨_, rfl, ?_⟩; obtain ⟨lod, hid, l1_, l2_, hX_⟩ : ∃ lo hi, 0 ≤ lo ∧ lo ≤ hi ∧ RowAt k31 31 lo hi vr_ x W13 := ⟨_, _, Nat.zero_le _, hb.size, RowAt.made ho0⟩; have nX_ := Aside0.mk (RowAt.below (by (with_reducible repeat (first | apply RowAt.alloc | apply RowAt.drewN | apply RowAt.drew)); exact HXw.out) hb); clear HXw; have HXw := nX_; clear nX_; have nX_ := Aside0.mk (RowAt.below (by (with_reducible repeat (first | apply RowAt.alloc | apply RowAt.drewN | apply RowAt.drew)); exact HXm.out) hb); clear HXm; have HXm := nX_; clear nX_; have nB_ := Aside0.mk (below_step (by repeat first | (with_reducible first | exact HB.out | apply below_alloc | apply pw_below_drewN | apply below_drew1) | exact HB.out) hb); clear HB; have HB := nB_; clear nB_; have Ld := Aside0.mk (⟨l1_, l2_⟩ : _ ∧ _); clear l1_ l2_; have HXd := Aside0.mk hX_; clear hX_; obtain ⟨Ad, cd, eo_⟩ := Kd.S_slice HXd.out.row; subst eo_; (try clear hb); (try clear ho0)) | ((with_reducible refine gate_callee (f := 24) rfl ?_); refine goesL_ (some 56) rfl rfl Try.func24 (by kernel_rfl) rfl #[.slice Ad x.length cd] rfl (by (try simp only [List.map_toArray, List.map_cons, List.map_nil]); first | done | rfl) ?_; refine (impl_GroupModules.calls k (fun k_ => lod ≤ k_ ∧ k_ < hid) _ _ x g1 _ (Kd.S_V (RowAt.row (by (with_reducible repeat (first | apply RowAt.alloc | apply RowAt.drewN | apply RowAt.drew)); exact HXd.out))) H3.out).mono ?_; rintro e W14 ⟨vr_, rfl, ho0, hb⟩; refine ⟨_, rfl, ?_⟩; obtain ⟨loh, hih, l1_, l2_, hX_⟩ : ∃ lo hi, 0 ≤ lo ∧ lo ≤ hi ∧ RowAt kA31 31 lo hi vr_ g1 W14 := ⟨_, _, Nat.zero_le _, hb.size, RowAt.made ho0⟩; have nX_ := Aside0.mk (RowAt.below (by (with_reducible repeat (first | apply RowAt.alloc | apply RowAt.drewN | apply RowAt.drew)); exact HXw.out) hb); clear HXw; have HXw := nX_; clear nX_; have nX_ := Aside0.mk (RowAt.below (by (with_reducible repeat (first | apply RowAt.alloc | apply RowAt.drewN | apply RowAt.drew)); exact HXm.out) hb); clear HXm; have HXm := nX_; clear nX_; have nX_ := Aside0.mk (RowAt.below (by (with_reducible repeat (first | apply RowAt.alloc | apply RowAt.drewN | apply RowAt.drew)); exact HXd.out) hb); clear HXd; have HXd := nX_; clear nX_; have nB_ := Aside0.mk (below_step (by repeat first | (with_reducible first | exact HB.out | apply below_alloc | apply pw_below_drewN | apply below_drew1) | exact HB.out) hb); clear HB; have HB := nB_; clear nB_; have Lh := Aside0.mk (⟨l1_, l2_⟩ : _ ∧ _); clear l1_ l2_; have HXh := Aside0.mk hX_; clear hX_; obtain ⟨Ah, ch, eo_⟩ := Kd.S_slice HXh.out.row; subst eo_; (try clear hb); (try clear ho0)) | ((with_reducible refine gate_callee (f := 17) rfl ?_); refine goesL_ (some 59) rfl rfl Try.func17 (by kernel_rfl) rfl #[.slice Ah g1.length ch, .slice Aw w1.length cw] rfl (by (try simp only [List.map_toArray, List.map_cons, List.map_nil]); first | done | rfl) ?_; refine (laws_eqTestS.calls k _ _ g1 _ _ w1 true _ (kA31_C (RowAt.C (by (with_reducible repeat (first | apply RowAt.alloc | apply RowAt.drewN | apply RowAt.drew)); exact HXh.out))) (RowAt.cap HXh.out) (RowAt.C (by (with_reducible repeat (first | apply RowAt.alloc | apply RowAt.drewN | apply RowAt.drew)); exact HXw.out)) (RowAt.cap HXw.out) H4.out).mono ?_; rintro e W15 ⟨rfl, hb⟩; refine ⟨_, rfl, ?_⟩; have nX_ := Aside0.mk (RowAt.below (by (with_reducible repeat (first | apply RowAt.alloc | apply RowAt.drewN | apply RowAt.drew)); exact HXw.out) hb); clear HXw; have HXw := nX_; clear nX_; have nX_ := Aside0.mk (RowAt.below (by (with_reducible repeat (first | apply RowAt.alloc | apply RowAt.drewN | apply RowAt.drew)); exact HXm.out) hb); clear HXm; have HXm := nX_; clear nX_; have nX_ := Aside0.mk (RowAt.below (by (with_reducible repeat (first | apply RowAt.alloc | apply RowAt.drewN | apply RowAt.drew)); exact HXd.out) hb); clear HXd; have HXd := nX_; clear nX_; have nX_ := Aside0.mk (RowAt.below (by (with_reducible repeat (first | apply RowAt.alloc | apply RowAt.drewN | apply RowAt.drew)); exact HXh.out) hb); clear HXh; have HXh := nX_; clear nX_; have nB_ := Aside0.mk (below_step (by repeat first | (with_reducible first | exact HB.out | apply below_alloc | apply pw_below_drewN | apply below_drew1) | exact HB.out) hb); clear HB; have HB := nB_; clear nB_; (try clear hb)) | ((with_reducible refine gate_callee (f := 25) rfl ?_); refine goesL_ (some 63) rfl rfl Try.func25 (by kernel_rfl) rfl #[.slice Ag g1.length cg, .int .i64 1] rfl (by (try simp only [List.map_toArray, List.map_cons, List.map_nil]); first | done | rfl) ?_; refine calls_of_args (args' := #[.slice Ag l2.length cg, .int .i64 1]) (by rw [HLEN.out]) ?_; refine (laws_heldTestS.calls k _ _ l2 1 q _ (kA31_C (RowAt.C (by (with_reducible repeat (first | apply RowAt.alloc | apply RowAt.drewN | apply RowAt.drew)); exact HXm.out))) (RowAt.cap HXm.out) H8.out).mono ?_; rintro e W16 ⟨rfl, hb⟩; refine ⟨_, rfl, ?_⟩; have nX_ := Aside0.mk (RowAt.below (by (with_reducible repeat (first | apply RowAt.alloc | apply RowAt.drewN | apply RowAt.drew)); exact HXw.out) hb); clear HXw; have HXw := nX_; clear nX_; have nX_ := Aside0.mk (RowAt.below (by (with_reducible repeat (first | apply RowAt.alloc | apply RowAt.drewN | apply RowAt.drew)); exact HXm.out) hb); clear HXm; have HXm := nX_; clear nX_; have nX_ := Aside0.mk (RowAt.below (by (with_reducible repeat (first | apply RowAt.alloc | apply RowAt.drewN | apply RowAt.drew)); exact HXd.out) hb); clear HXd; have HXd := nX_; clear nX_; have nX_ := Aside0.mk (RowAt.below (by (with_reducible repeat (first | apply RowAt.alloc | apply RowAt.drewN | apply RowAt.drew)); exact HXh.out) hb); clear HXh; have HXh := nX_; clear nX_; have nB_ := Aside0.mk (below_step (by repeat first | (with_reducible first | exact HB.out | apply below_alloc | apply pw_below_drewN | apply below_drew1) | exact HB.out) hb); clear HB; have HB := nB_; clear nB_; (try clear hb)))
  go_ret
  exact ⟨rfl, HB.out⟩


end Go.Proofs.Ytadhfpbkanobnaa.U
