-- WRITTEN by wip/ext.py
import Derived.Test.YtcbkpdgbijdbbaaNx0
import Derived.Test.YtcbkpdgbijdbbaaNx9
import Derived.Test.YtcbkpdgbijdbbaaNx10
namespace Go.Proofs.Ytcbkpdgbijdbbaa.N
open Go.RowKit Go.Proofs.YtcbkpdgbijdbbaaW.PrintWords Go.Proofs.YtcbkpdgbijdbbaaW.PrintLast Go.Proofs.YtcbkpdgbijdbbaaW.PrintMore
attribute [local go_sem] max2_int min2_int max_two min_two max_three min_three max_four min_four   -- for this text's walks alone
set_option linter.unusedVariables false
set_option linter.unusedSimpArgs false

/-! ### laws_markReplyS: function 75 -/
structure MReply (base g n : Nat) (P : Nat → Prop) (H : Nat → Nat → Value) (L : Nat → Nat → Nat) (w0 wS W : World) : Prop where
 blk : 0 < n → base ≤ g ∧ P g ∧ ∃ cells, W.heap[g]? = some (.cells cells 44 (0, 0))
 c0 : ∀ i, i < n → ∃ x, W.cell? ⟨g, i * 2, none⟩ = some (Value.string x)
 c1 : ∀ i, i < n → W.cell? ⟨g, i * 2 + 1, none⟩ = some (H i 1)
 r1 : ∀ i, i < n → MRow (Value.int .i64) 3 base P (L i 1) (H i 1) W
 bel : Below w0.heap.size w0 W
 kept : Kept wS W P
 low : w0.heap.size ≤ base
theorem MReply.below {base g n : Nat} {P : Nat → Prop} {H : Nat → Nat → Value} {L : Nat → Nat → Nat} {w0 wS W : World} (h : MReply base g n P H L w0 wS W) {W' : World} (hb : Below W.heap.size W W') : MReply base g n P H L w0 wS W' where
 blk hn := by
  obtain ⟨h1, h2, cells, h3⟩ := h.blk hn
  exact ⟨h1, h2, cells, (hb.block g (blk_lt h3)).trans h3⟩
 c0 i hi := by
  obtain ⟨x, hx⟩ := h.c0 i hi
  exact ⟨x, (hb.cell (World.block_lt_of_cell? _ _ hx)).trans hx⟩
 c1 i hi := (hb.cell (World.block_lt_of_cell? _ _ (h.c1 i hi))).trans (h.c1 i hi)
 r1 i hi := (h.r1 i hi).below hb
 bel := below_step h.bel hb
 kept := h.kept.below hb
 low := h.low
theorem MReply.set0 {base g n : Nat} {P : Nat → Prop} {H : Nat → Nat → Value} {L : Nat → Nat → Nat} {w0 wS W : World} (h : MReply base g n P H L w0 wS W) {m : Nat} (hm : m < n) (y : ByteArray) : MReply base g n P H L w0 wS (W.setCell ⟨g, m * 2, none⟩ (Value.string y)) where
 blk hn := ⟨(h.blk hn).1, (h.blk hn).2.1, blkT_set (h.blk hn).2.2 _ _ _⟩
 c0 i hi := cell_set_enc (h.c0 i hi) _ y
 c1 i hi := cell_set_ne (h.c1 i hi) (addr_ne (fun _ => by omega))
 r1 i hi := (h.r1 i hi).set_other (h.blk (by omega)).2.2 (by decide) _ _
 bel := below_set h.bel (Nat.le_trans h.low (h.blk (by omega)).1)
 kept := h.kept.setCell (.inl (h.blk (by omega)).2.1) _
 low := h.low
theorem MReply.put1 {base g n : Nat} {P : Nat → Prop} {H : Nat → Nat → Value} {L : Nat → Nat → Nat} {w0 wS W : World} (h : MReply base g n P H L w0 wS W) {m b c j : Nat} (hm : m < n) (hv : H m 1 = .slice (some ⟨b, 0, none⟩) (L m 1) c) (hj : j < L m 1) (y : Int) : MReply base g n P H L w0 wS (W.setCell ⟨b, j, none⟩ (Value.int .i64 y)) := by
 obtain ⟨A, c', e1, _, hR⟩ := h.r1 m hm
 obtain ⟨b', hA, hb1, hb2, hb3, _⟩ := hR (by omega)
 have e4 := addr_inj ((slice_inj (hv.symm.trans e1)).trans hA)
 subst e4
 obtain ⟨_, hg⟩ := (h.blk (by omega)).2.2
 obtain ⟨_, hb4⟩ := hb3
 have hne : b ≠ g := blk_ne hb4 hg (by decide)
 exact {
  blk := fun hn => ⟨(h.blk hn).1, (h.blk hn).2.1, blkT_set (h.blk hn).2.2 _ _ _⟩
  c0 := fun i hi => by
   obtain ⟨x, hx⟩ := h.c0 i hi
   exact ⟨x, cell_set_ne hx (addr_ne (fun e => absurd e hne))⟩
  c1 := fun i hi => cell_set_ne (h.c1 i hi) (addr_ne (fun e => absurd e hne))
  r1 := fun i hi => (h.r1 i hi).set_enc _ _ y
  bel := below_set h.bel (Nat.le_trans h.low hb1)
  kept := h.kept.setCell (.inl hb2) _
  low := h.low }
def laws_markReplyS.n : Nat → List S44 → Int → Option Int
 | _, [], a => some a
 | k, x :: t, a => (laws_markText.f k (a)).bind fun _ => (laws_markIntS.n k x.f1.length (wrap64 (a + 1))).bind fun b1 => laws_markReplyS.n k t (b1)
theorem laws_markReplyS.n_mono (k : Nat) : ∀ t a, LeO (laws_markReplyS.n k t a) (laws_markReplyS.n (k + 1) t a)
 | [], a => LeO.refl _
 | x :: t, a => LeO.bind (laws_markText.mono _ _) (fun _ => LeO.bind (laws_markIntS.n_mono k _ _) (fun _ => laws_markReplyS.n_mono k t _))
def laws_markReplyS.f (k : Nat) (l0 : List (S44)) (a1 : Int) : Option (Int) := laws_markReplyS.n k l0 a1
theorem laws_markReplyS.mono : ∀ a0 a1 k, LeO (laws_markReplyS.f k a0 a1) (laws_markReplyS.f (k + 1) a0 a1) := fun a0 a1 k => laws_markReplyS.n_mono k a0 a1
def MReply.h (w : World) (g : Nat) (i j : Nat) : Value := (w.cell? ⟨g, i * 2 + j, none⟩).getD (.slice none 0 0)
def MReply.l (l0 : List (S44)) (i j : Nat) : Nat := match j with
 | 1 => ((l0.getD i z44).f1).length
 | _ => 0
theorem MReply.start {base : Nat} {P : Nat → Prop} {A : Option Addr} {c : Nat} {l0 : List (S44)} {w0 w : World} (hB : Below w0.heap.size w0 w) (hlow : w0.heap.size ≤ base) (ho : Kd.R k44 44 w base P (.slice A l0.length c) l0) :
  ∃ g, (0 < l0.length → A = some ⟨g, 0, none⟩) ∧ MReply base g l0.length P (MReply.h w g) (MReply.l l0) w0 w w := by
 by_cases hn : 0 < l0.length
 ·obtain ⟨g, cap, hv, hb, _, hc⟩ := Kd.R_form ho hn
  have hA := slice_inj hv
  subst hA
  have el : ∀ i, i < l0.length → ∃ (ce : List Value) (v1 : Value), ce = [.string (l0.getD i z44).f0, v1] ∧ MRow (Value.int .i64) 3 base P (l0.getD i z44).f1.length v1 w ∧ (∀ j u, ce[j]? = some u → w.cell? ⟨g, i * 2 + j, none⟩ = some u) := by
   intro i hi
   obtain ⟨ce, hcl, hM, hcc, _⟩ := Kd.R_elem ho z44 (i : Int) (by omega) (by omega)
   rw [Int.toNat_natCast] at hcc
   obtain ⟨v1, rfl, g10⟩ := k44_openM hM
   have g1 := mrow_of (P := P) (0 : Int) g10 (fun k hk => hk.1)
   exact ⟨_, v1, rfl, g1, hcc⟩
  refine ⟨g, fun _ => rfl, ?_⟩
  refine { blk := fun _ => ⟨hb, ho.1 g (by simp [Value.ownBlock]), hc⟩, c0 := ?c0, c1 := ?c1, r1 := ?r1, bel := hB, kept := Kept.refl _ _, low := hlow }
  case c0 =>
   intro i hi
   obtain ⟨ce, v1, rfl, g1, hcc⟩ := el i hi
   exact ⟨_, hcc 0 _ rfl⟩
  case c1 =>
   intro i hi
   obtain ⟨ce, v1, rfl, g1, hcc⟩ := el i hi
   exact by
    have := hcc 1 _ rfl
    rw [show MReply.h w g i 1 = v1 from by unfold MReply.h; rw [this]; rfl]
    exact this
  case r1 =>
   intro i hi
   obtain ⟨ce, v1, rfl, g1, hcc⟩ := el i hi
   have := hcc 1 _ rfl
   rw [show MReply.h w g i 1 = v1 from by unfold MReply.h; rw [this]; rfl]
   exact g1
 ·exact ⟨0, fun h => absurd h hn, { blk := fun h => absurd h hn, c0 := fun i hi => absurd hi (by omega), c1 := fun i hi => absurd hi (by omega), r1 := fun i hi => absurd hi (by omega), bel := hB, kept := Kept.refl _ _, low := hlow }⟩
set_option maxHeartbeats 8000000 in
set_option maxRecDepth 100000 in
theorem laws_markReplyS.walk (k : Nat) (A : Option Addr) (c : Nat) (l0 : List (S44)) (a1 r1 : Int) (base g : Nat) (P : Nat → Prop) (w0 w : World) (hA : 0 < l0.length → A = some ⟨g, 0, none⟩) (hI : MReply base g l0.length P (MReply.h w g) (MReply.l l0) w0 w w) (hn : l0.length ≤ 9223372036854775807) (h : laws_markReplyS.n k l0 a1 = some r1) :
  Calls Try.prog 75 #[.slice A l0.length c, .int .i64 a1] w fun e w' => e = .returned (.int .i64 r1) ∧ MReply base g l0.length P (MReply.h w g) (MReply.l l0) w0 w w' := by
 have MV := Aside0.mk hI
 have HA := Aside0.mk hA
 have H := Aside0.mk h
 clear hI hA h
 go_enter Try.func75, Try.ntmps75
 go_wp2
 go_loopg [1, 5] l0.length (fun gg v1 v5 wr => ∃ (x1 x5 : Int) (m : Nat), v1 = .int .i64 x1 ∧ v5 = .int .i64 x5 ∧ Aside0 (0 ≤ x5 ∧ x5.toNat + m = l0.length) ∧ m ≤ gg ∧ Aside0 (laws_markReplyS.n k (l0.drop x5.toNat) x1 = some r1) ∧ Aside0 (MReply base g l0.length P (MReply.h w g) (MReply.l l0) w0 w wr))
 case atStart => exact ⟨a1, 0, l0.length, rfl, rfl, ⟨by decide, by simp⟩, Nat.le_refl _, H, MV⟩
 case round =>
  clear H MV
  obtain ⟨x1, x5, m, rfl, rfl, HM, hg, H, MV⟩ := hrel
  cases m with
  | zero =>
   have c3b0 : decide (x5 < (l0.length : Int)) = false := decide_eq_false (by have := HM.out; omega)
   have hr := H.out
   rw [List.drop_of_length_le (by have := HM.out; omega)] at hr
   unfold laws_markReplyS.n at hr
   obtain rfl := Option.some.inj hr
   clear H hr hg
   go_wp2
   go_ret
   exact ⟨rfl, MV.out⟩
  | succ m =>
   have c3b0 : decide (x5 < (l0.length : Int)) = true := decide_eq_true (by have := HM.out; omega)
   have p6 : (0 ≤ x5) = True := eq_true HM.out.1
   have q6 : (x5 < (l0.length : Int)) = True := eq_true (by have := HM.out; omega)
   have HLT := Aside0.mk (show x5.toNat < l0.length by have := HM.out; omega)
   have hr := H.out
   obtain ⟨x, hx⟩ : ∃ x, x = l0[x5.toNat]'HLT.out := ⟨_, rfl⟩
   have hgx : l0.getD x5.toNat z44 = x := by rw [hx, List.getD_eq_getElem?_getD, List.getElem?_eq_getElem HLT.out]; rfl
   rw [List.drop_eq_getElem_cons HLT.out, ← hx] at hr
   clear hx H
   unfold laws_markReplyS.n at hr
   obtain ⟨t0, A00, hr⟩ := Option.bind_eq_some_iff.mp hr
   have A0 := Aside0.mk A00
   clear A00
   obtain ⟨b1, A10, hr⟩ := Option.bind_eq_some_iff.mp hr
   have A1 := Aside0.mk (show laws_markIntS.n k (MReply.l l0 (x5 : Int).toNat 1) (wrap64 (x1 + 1)) = some b1 by rw [show MReply.l l0 (x5 : Int).toNat 1 = x.f1.length from by show ((l0.getD _ _).f1).length = _; rw [hgx]]; exact A10)
   clear A10
   have H := Aside0.mk hr
   clear hr hgx
   have eA := HA.out (by have := HLT.out; omega)
   subst eA
   go_wp2_with (first | ((with_reducible refine gate_callee (f := 68) rfl ?_); refine goesL_ (some 15) rfl rfl Try.func68 (by kernel_rfl) rfl #[.int .i64 (x1)] rfl (by (try simp only [List.map_toArray, List.map_cons, List.map_nil]); first | done | rfl) ?_; (with_reducible refine (laws_markText.calls k (x1) t0 _ A0.out).mono ?_); rintro e w1 ⟨rfl, hb⟩; refine ⟨_, rfl, ?_⟩; replace MV := Aside0.mk (MV.out.below hb); clear hb; obtain ⟨s0_, hx0_⟩ := MV.out.c0 _ HLT.out; obtain ⟨cl0_, hcl0_⟩ := (MV.out.blk (by have := HLT.out; omega)).2.2; have hf0_ := blk_frozen hcl0_ ((x5 : Int).toNat * 2); clear hcl0_) | ((with_reducible refine gate_store (t := 9) (p := 17) rfl ?_); refine store_event (t := 9) (p := 17) (v := ?vo_w2) (w1 := (w1.setCell ⟨g, (x5 : Int).toNat * 2, none⟩ (.string t0))) ?hg ?ho ?hn ?hr ?_; (case ho => rfl); (case hg => rfl); (case hn => rfl); (case hr => first | (go_simp; done) | (go_simp; rfl)); intro w2 hw; replace MV := Aside0.mk (show MReply base g l0.length P (MReply.h w g) (MReply.l l0) w0 w w2 by rw [hw]; exact MV.out.set0 HLT.out _); clear hw; have hx1_ := MV.out.c1 _ HLT.out) | ((with_reducible refine gate_callee (f := 37) rfl ?_); refine goesL_ (some 26) rfl rfl Try.func37 (by kernel_rfl) rfl #[MReply.h w g (x5 : Int).toNat 1, .int .i64 (wrap64 (x1 + 1))] rfl (by (try simp only [List.map_toArray, List.map_cons, List.map_nil]); first | done | rfl) ?_; refine (laws_markIntS.walk k (MReply.l l0 (x5 : Int).toNat 1) (MReply.h w g (x5 : Int).toNat 1) (wrap64 (x1 + 1)) b1 base P _ (MReply base g l0.length P (MReply.h w g) (MReply.l l0) w0 w) MV.out (fun W h => h.r1 _ HLT.out) (fun W b c j y h e hj => h.put1 HLT.out e hj y) (fun W W' h hb => h.below hb) A1.out).mono ?_; rintro e w3 ⟨rfl, hI⟩; refine ⟨_, rfl, ?_⟩; have n0_ := Aside0.mk hI; clear MV hI; have MV := n0_; clear n0_))
   go_roundg m
   case measure => omega
   case rel => exact ⟨(b1), (wrap64 (x5 + 1)), m, (by first | rfl | (simp; done) | (simp [*]; done)), (by first | rfl | (simp; done) | (simp [*]; done)), ⟨by have := HM.out; rw [show wrap64 (x5 + 1) = x5 + 1 from by unfold wrap64; omega]; omega⟩, by omega, ⟨by have := HM.out; rw [show (wrap64 (x5 + 1)).toNat = x5.toNat + 1 from by unfold wrap64; omega]; exact H.out⟩, MV⟩
/-- .. as the laws call it: of what stood before only blocks in P are turned. -/
theorem laws_markReplyS.calls (k : Nat) (P : Nat → Prop) (A : Option Addr) (c : Nat) (l0 : List (S44)) (a1 r1 : Int) (base : Nat) (w0 w : World) (hB : Below w0.heap.size w0 w) (hlow : w0.heap.size ≤ base) (ho : Kd.R k44 44 w base P (.slice A l0.length c) l0) (h : laws_markReplyS.f k l0 a1 = some r1) :
  Calls Try.prog 75 #[.slice A l0.length c, .int .i64 a1] w fun e w' => e = .returned (.int .i64 r1) ∧ Below w0.heap.size w0 w' ∧ Kept w w' P := by
 obtain ⟨g, hA, hI⟩ := MReply.start hB hlow ho
 refine (laws_markReplyS.walk k A c l0 a1 r1 base g P w0 w hA hI (by have := (Kd.R_reads' ho).2.2.2.1; omega) h).mono ?_
 rintro e w' ⟨rfl, hI'⟩
 exact ⟨rfl, hI'.bel, hI'.kept⟩

/-! ### laws_markDouble: function 42 -/
/-! #### markDouble: its one row -/
def laws_markDouble.f (k : Nat) (l0_0 : List (S44)) (a1 : Int) : Option (Int) := (laws_markReplyS.f k l0_0 a1).bind fun t => some t
theorem laws_markDouble.mono : ∀ a0 a1 k, LeO (laws_markDouble.f k a0 a1) (laws_markDouble.f (k + 1) a0 a1) := fun a0 a1 k => LeO.bind (laws_markReplyS.mono a0 a1 k) fun _ => LeO.refl _
set_option maxHeartbeats 4000000 in
set_option maxRecDepth 100000 in
theorem laws_markDouble.calls (k : Nat) (P : Nat → Prop) (A : Option Addr) (c : Nat) (l0 : List (S44)) (a1 r1 : Int) (base : Nat) (w0 w : World) (hB : Below w0.heap.size w0 w) (hlow : w0.heap.size ≤ base) (ho : Kd.R k44 44 w base P (.slice A l0.length c) l0) (h : laws_markDouble.f k l0 a1 = some r1) :
  Calls Try.prog 42 #[.agg #[.slice A l0.length c], .int .i64 a1] w fun e w' => e = .returned (.int .i64 r1) ∧ Below w0.heap.size w0 w' ∧ Kept w w' P := by
 obtain ⟨t, ht, hr⟩ := Option.bind_eq_some_iff.mp h
 obtain rfl := Option.some.inj hr
 have HT := Aside0.mk ht
 have HO := Aside0.mk ho
 have HBB := Aside0.mk hB
 have HLO := Aside0.mk hlow
 clear h hr ht ho hB hlow
 have hu38 := Try.underlying38
 go_enter Try.func42, Try.ntmps42
 go_wp2_with (first | ((with_reducible refine gate_dst (N := 2) rfl ?_); refine box_event ?hg (N := 2) ?hd (cs := #[.slice A l0.length c]) (t := 38) ?hr ?_; (case hd => rfl); (case hg => rfl); (case hr => first | (go_simp; done) | (go_simp; rfl)); intro gb hg w4 hbox hb; have HX := Aside0.mk (Kd.R_mono (Kd.R_bound (Kd.R_below HO.out hb)) (fun _ hk => hk.1)); have HB4 := Aside0.mk (below_step HBB.out hb); have BK := Aside0.mk hbox; have HS := Aside0.mk hb; clear hb hbox hg; have hcz0 : w4.cell? ⟨gb, 0, none⟩ = some (.slice A l0.length c) := (blk_cell BK.out 0).trans rfl) | (go_at_call 75; refine (laws_markReplyS.calls k P A c l0 a1 t base w0 _ HB4.out HLO.out HX.out HT.out).mono ?_; rintro e w' ⟨rfl, hb2, hk2⟩))
 go_ret
 exact ⟨rfl, hb2, Kept.then_ (Kept.of_below HS.out P) hk2 (fun _ h_ => .inl h_)⟩

end Go.Proofs.Ytcbkpdgbijdbbaa.N
