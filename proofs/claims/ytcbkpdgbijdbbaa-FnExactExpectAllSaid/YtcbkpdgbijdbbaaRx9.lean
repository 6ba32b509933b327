-- WRITTEN by wip/ext.py
import Derived.Test.YtcbkpdgbijdbbaaRx0
import Derived.Test.YtcbkpdgbijdbbaaRx8
namespace Go.Proofs.Ytcbkpdgbijdbbaa.R
open Go.RowKit Go.Proofs.YtcbkpdgbijdbbaaW.PrintWords Go.Proofs.YtcbkpdgbijdbbaaW.PrintLast Go.Proofs.YtcbkpdgbijdbbaaW.PrintMore
attribute [local go_sem] max2_int min2_int max_two min_two max_three min_three max_four min_four   -- for this text's walks alone
set_option linter.unusedVariables false
set_option linter.unusedSimpArgs false

/-! ### laws_markCallS: function 30 -/
/-- A row of values of one kind, whatever they are; its block is in P. -/
def MRow {α : Type} (enc : α → Value) (T base : Nat) (P : Nat → Prop) (n : Nat) (v : Value) (W : World) : Prop :=
 ∃ A c, v = .slice A n c ∧ n ≤ 9223372036854775807 ∧ (0 < n → ∃ g, A = some ⟨g, 0, none⟩ ∧ base ≤ g ∧ P g ∧ (∃ cells, W.heap[g]? = some (.cells cells T (0, 0))) ∧ ∀ j, j < n → ∃ x, W.cell? ⟨g, j, none⟩ = some (enc x))
theorem blkT_set {W : World} {g T : Nat} (h : ∃ cells, W.heap[g]? = some (.cells cells T (0, 0))) (b i : Nat) (u : Value) : ∃ cells, (W.setCell ⟨b, i, none⟩ u).heap[g]? = some (.cells cells T (0, 0)) := by
 obtain ⟨cells, h⟩ := h
 by_cases hp : g = b
 ·subst hp
  exact ⟨cells.setIfInBounds i u, by simp [World.setCell, Array.getElem?_modify, h]⟩
 ·exact ⟨cells, (Below.heap_setCell W ⟨b, i, none⟩ u g hp).trans h⟩
theorem cell_set_enc {α : Type} {enc : α → Value} {W : World} {p : Addr} (h : ∃ x, W.cell? p = some (enc x)) (q : Addr) (y : α) : ∃ x, (W.setCell q (enc y)).cell? p = some (enc x) := by
 obtain ⟨x, h⟩ := h
 by_cases e : q = p
 ·subst e
  exact ⟨y, World.cell?_setCell_same _ _ _ h⟩
 ·exact ⟨x, (World.cell?_setCell_other _ _ _ _ e).trans h⟩
theorem cell_set_ne {W : World} {p q : Addr} {u v : Value} (h : W.cell? p = some u) (e : q ≠ p) : (W.setCell q v).cell? p = some u := (World.cell?_setCell_other _ _ _ _ e).trans h
theorem slice_inj {A A' : Option Addr} {n n' c c' : Nat} (h : Value.slice A n c = Value.slice A' n' c') : A = A' := by
 injection h
theorem addr_inj {g g' : Nat} (h : (some ⟨g, 0, none⟩ : Option Addr) = some ⟨g', 0, none⟩) : g = g' := by
 injection h with h
 injection h
theorem addr_ne {b b' i i' : Nat} (h : b = b' → i ≠ i') : (⟨b, i, none⟩ : Addr) ≠ ⟨b', i', none⟩ := by
 intro e
 injection e with e1 e2 _
 exact h e1 e2
theorem MRow.below {α : Type} {enc : α → Value} {T base : Nat} {P : Nat → Prop} {n : Nat} {v : Value} {W W' : World} (h : MRow enc T base P n v W) (hb : Below W.heap.size W W') : MRow enc T base P n v W' := by
 obtain ⟨A, c, hv, hl, h⟩ := h
 refine ⟨A, c, hv, hl, fun hn => ?_⟩
 obtain ⟨g, hA, h1, h2, ⟨cells, h3⟩, h4⟩ := h hn
 refine ⟨g, hA, h1, h2, ⟨cells, (hb.block g (blk_lt h3)).trans h3⟩, fun j hj => ?_⟩
 obtain ⟨x, hx⟩ := h4 j hj
 exact ⟨x, (hb.cell (World.block_lt_of_cell? _ _ hx)).trans hx⟩
theorem MRow.set_enc {α : Type} {enc : α → Value} {T base : Nat} {P : Nat → Prop} {n : Nat} {v : Value} {W : World} (h : MRow enc T base P n v W) (b i : Nat) (x : α) : MRow enc T base P n v (W.setCell ⟨b, i, none⟩ (enc x)) := by
 obtain ⟨A, c, hv, hl, h⟩ := h
 refine ⟨A, c, hv, hl, fun hn => ?_⟩
 obtain ⟨g, hA, h1, h2, h3, h4⟩ := h hn
 exact ⟨g, hA, h1, h2, blkT_set h3 b i _, fun j hj => cell_set_enc (h4 j hj) _ x⟩
theorem MRow.set_other {α : Type} {enc : α → Value} {T base : Nat} {P : Nat → Prop} {n : Nat} {v : Value} {W : World} (h : MRow enc T base P n v W) {b T' : Nat} (hb : ∃ cells, W.heap[b]? = some (.cells cells T' (0, 0))) (ht : T' ≠ T) (i : Nat) (u : Value) : MRow enc T base P n v (W.setCell ⟨b, i, none⟩ u) := by
 obtain ⟨A, c, hv, hl, h⟩ := h
 refine ⟨A, c, hv, hl, fun hn => ?_⟩
 obtain ⟨g, hA, h1, h2, h3, h4⟩ := h hn
 obtain ⟨_, hb⟩ := hb
 have h3c := h3
 obtain ⟨_, h3'⟩ := h3c
 have hne : b ≠ g := blk_ne hb h3' ht
 refine ⟨g, hA, h1, h2, blkT_set h3 b i _, fun j hj => ?_⟩
 obtain ⟨x, hx⟩ := h4 j hj
 exact ⟨x, cell_set_ne hx (addr_ne (fun e => absurd e hne))⟩
theorem Kd.R_flat {α : Type} {enc : α → Value} {h1 : ∀ x, (enc x).oneCell' = true} {T base : Nat} {ok S : Nat → Prop} {v : Value} {xs : List α} {w w1 : World} (h : (Kd.scalar enc h1).R T w base ok v xs) (hk : Kept w w1 S) (hd : ∀ k, v.ownBlock = some k → ¬ S k) : (Kd.scalar enc h1).R T w1 base ok v xs := by
 obtain ⟨h0, inner, ho, hr⟩ := h
 exact ⟨h0, inner, own_move ho (fun k hk1 => hk.2 k (own_lt ho k hk1) (hd k hk1)), hr⟩
theorem mrow_of {α : Type} {enc : α → Value} {h1 : ∀ x, (enc x).oneCell' = true} {T base : Nat} {ok P : Nat → Prop} {v : Value} {xs : List α} {W : World} (d : α) (h : (Kd.scalar enc h1).R T W base ok v xs) (hok : ∀ k, ok k → P k) : MRow enc T base P xs.length v W := by
 obtain ⟨A, c, rfl⟩ := Kd.R_slice h
 refine ⟨A, c, rfl, by have := (Kd.R_reads' h).2.2.2.1; omega, fun hn => ?_⟩
 obtain ⟨g, cap, hv, hb, _, hc⟩ := Kd.R_form h hn
 have hA := slice_inj hv
 subst hA
 refine ⟨g, rfl, hb, hok g (h.1 g (by simp [Value.ownBlock])), hc, fun j hj => ⟨rdOf d xs (j : Int), ?_⟩⟩
 have := (Kd.R_celln d h (j : Int) (by omega) (by omega)).1
 rwa [Int.toNat_natCast] at this
def laws_markIntS.n : Nat → Nat → Int → Option Int
 | _, 0, a => some a
 | k, m + 1, a => laws_markIntS.n k m (wrap64 (a + 1))
theorem laws_markIntS.n_mono (k : Nat) : ∀ m a, LeO (laws_markIntS.n k m a) (laws_markIntS.n (k + 1) m a)
 | 0, a => LeO.refl _
 | m + 1, a => laws_markIntS.n_mono k m _
set_option maxHeartbeats 4000000 in
set_option maxRecDepth 100000 in
theorem laws_markIntS.walk (k n : Nat) (v : Value) (a1 r1 : Int) (base : Nat) (P : Nat → Prop) (w : World) (Inv : World → Prop) (hI : Inv w) (hrow : ∀ W, Inv W → MRow (Value.int .i64) 3 base P n v W)
  (hset : ∀ W g c j x, Inv W → v = .slice (some ⟨g, 0, none⟩) n c → j < n → Inv (W.setCell ⟨g, j, none⟩ ((Value.int .i64) x))) (hbel : ∀ W W', Inv W → Below W.heap.size W W' → Inv W') (h : laws_markIntS.n k n a1 = some r1) :
  Calls Try.prog 37 #[v, .int .i64 a1] w fun e w' => e = .returned (.int .i64 r1) ∧ Inv w' := by
 obtain ⟨A, c, rfl, hn, _⟩ := hrow w hI
 have HI := Aside0.mk hI
 have HROW := Aside0.mk hrow
 have HSET := Aside0.mk hset
 have HBEL := Aside0.mk hbel
 have H := Aside0.mk h
 clear hI hrow hset hbel h
 go_enter Try.func37, Try.ntmps37
 go_wp2
 go_loopg [1, 5] n (fun gg v1 v5 wr => ∃ (x1 x5 : Int) (m : Nat), v1 = .int .i64 x1 ∧ v5 = .int .i64 x5 ∧ Aside0 (0 ≤ x5 ∧ x5.toNat + m = n) ∧ m ≤ gg ∧ Aside0 (laws_markIntS.n k m x1 = some r1) ∧ Aside0 (Inv wr))
 case atStart => exact ⟨a1, 0, n, rfl, rfl, ⟨by decide, by simp⟩, Nat.le_refl _, H, HI⟩
 case round =>
  clear H HI
  obtain ⟨x1, x5, m, rfl, rfl, HM, hg, H, HI⟩ := hrel
  cases m with
  | zero =>
   have c3b0 : decide (x5 < (n : Int)) = false := decide_eq_false (by have := HM.out; omega)
   have hr := H.out
   unfold laws_markIntS.n at hr
   obtain rfl := Option.some.inj hr
   clear H hr hg
   go_wp2
   go_ret
   exact ⟨rfl, HI.out⟩
  | succ m =>
   have c3b0 : decide (x5 < (n : Int)) = true := decide_eq_true (by have := HM.out; omega)
   have p6 : (0 ≤ x5) = True := eq_true HM.out.1
   have q6 : (x5 < (n : Int)) = True := eq_true (by have := HM.out; omega)
   have HLT := Aside0.mk (show x5.toNat < n by have := HM.out; omega)
   have hr := H.out
   unfold laws_markIntS.n at hr
   clear H
   have H := Aside0.mk hr
   clear hr
   obtain ⟨A2_, c2_, e2_, _, hR2_⟩ := HROW.out _ HI.out
   obtain ⟨g, hA2_, _, _, hB2_, hC2_⟩ := hR2_ (by have := HLT.out; omega)
   have eA : A = some ⟨g, 0, none⟩ := (slice_inj e2_).trans hA2_
   subst eA
   obtain ⟨s_, hx_⟩ := hC2_ x5.toNat HLT.out
   obtain ⟨cl_, hcl_⟩ := hB2_
   have hf_ := blk_frozen hcl_ x5.toNat
   clear e2_ hA2_ hR2_ hC2_ hcl_
   go_wp2_with (first | ((with_reducible refine gate_store (t := 3) (p := 15) rfl ?_); refine store_event (t := 3) (p := 15) (v := ?vo_w2) (w1 := (wr.setCell ⟨g, (x5 : Int).toNat, none⟩ (.int .i64 x1))) ?hg ?ho ?hn ?hr ?_; (case ho => rfl); (case hg => rfl); (case hn => rfl); (case hr => first | (go_simp; done) | (go_simp; rfl)); intro w2 hw; replace HI := Aside0.mk (show Inv w2 by rw [hw]; exact HSET.out _ g c _ _ HI.out rfl HLT.out); clear hw))
   go_roundg m
   case measure => omega
   case rel => exact ⟨(wrap64 (x1 + 1)), (wrap64 (x5 + 1)), m, (by first | rfl | (simp; done) | (simp [*]; done)), (by first | rfl | (simp; done) | (simp [*]; done)), ⟨by have := HM.out; rw [show wrap64 (x5 + 1) = x5 + 1 from by unfold wrap64; omega]; omega⟩, by omega, H, HI⟩
structure MCall (base g n : Nat) (P : Nat → Prop) (H : Nat → Nat → Value) (L : Nat → Nat → Nat) (w0 wS W : World) : Prop where
 blk : 0 < n → base ≤ g ∧ P g ∧ ∃ cells, W.heap[g]? = some (.cells cells 33 (0, 0))
 c0 : ∀ i, i < n → ∃ x, W.cell? ⟨g, i * 2, none⟩ = some (Value.string x)
 c1 : ∀ i, i < n → W.cell? ⟨g, i * 2 + 1, none⟩ = some (H i 1)
 r1 : ∀ i, i < n → MRow (Value.int .i64) 3 base P (L i 1) (H i 1) W
 bel : Below w0.heap.size w0 W
 kept : Kept wS W P
 low : w0.heap.size ≤ base
theorem MCall.below {base g n : Nat} {P : Nat → Prop} {H : Nat → Nat → Value} {L : Nat → Nat → Nat} {w0 wS W : World} (h : MCall base g n P H L w0 wS W) {W' : World} (hb : Below W.heap.size W W') : MCall base g n P H L w0 wS W' where
 blk hn := by
  obtain ⟨h1, h2, cells, h3⟩ := h.blk hn
  exact ⟨h1, h2, cells, (hb.block g (blk_lt h3)).trans h3⟩
 c0 i hi := by
  obtain ⟨x, hx⟩ := h.c0 i hi
  exact ⟨x, (hb.cell (World.block_lt_of_cell? _ _ hx)).trans hx⟩
 c1 i hi := (hb.cell (World.block_lt_of_cell? _ _ (h.c1 i hi))).trans (h.c1 i hi)
 r1 i hi := (h.r1 i hi).below hb
 bel := below_step h.bel hb
 kept := h.kept.below hb
 low := h.low
theorem MCall.set0 {base g n : Nat} {P : Nat → Prop} {H : Nat → Nat → Value} {L : Nat → Nat → Nat} {w0 wS W : World} (h : MCall base g n P H L w0 wS W) {m : Nat} (hm : m < n) (y : ByteArray) : MCall base g n P H L w0 wS (W.setCell ⟨g, m * 2, none⟩ (Value.string y)) where
 blk hn := ⟨(h.blk hn).1, (h.blk hn).2.1, blkT_set (h.blk hn).2.2 _ _ _⟩
 c0 i hi := cell_set_enc (h.c0 i hi) _ y
 c1 i hi := cell_set_ne (h.c1 i hi) (addr_ne (fun _ => by omega))
 r1 i hi := (h.r1 i hi).set_other (h.blk (by omega)).2.2 (by decide) _ _
 bel := below_set h.bel (Nat.le_trans h.low (h.blk (by omega)).1)
 kept := h.kept.setCell (.inl (h.blk (by omega)).2.1) _
 low := h.low
theorem MCall.put1 {base g n : Nat} {P : Nat → Prop} {H : Nat → Nat → Value} {L : Nat → Nat → Nat} {w0 wS W : World} (h : MCall base g n P H L w0 wS W) {m b c j : Nat} (hm : m < n) (hv : H m 1 = .slice (some ⟨b, 0, none⟩) (L m 1) c) (hj : j < L m 1) (y : Int) : MCall base g n P H L w0 wS (W.setCell ⟨b, j, none⟩ (Value.int .i64 y)) := by
 obtain ⟨A, c', e1, _, hR⟩ := h.r1 m hm
 obtain ⟨b', hA, hb1, hb2, hb3, _⟩ := hR (by omega)
 have e4 := addr_inj ((slice_inj (hv.symm.trans e1)).trans hA)
 subst e4
 obtain ⟨_, hg⟩ := (h.blk (by omega)).2.2
 obtain ⟨_, hb4⟩ := hb3
 have hne : b ≠ g := blk_ne hb4 hg (by decide)
 exact {
  blk := fun hn => ⟨(h.blk hn).1, (h.blk hn).2.1, blkT_set (h.blk hn).2.2 _ _ _⟩
  c0 := fun i hi => by
   obtain ⟨x, hx⟩ := h.c0 i hi
   exact ⟨x, cell_set_ne hx (addr_ne (fun e => absurd e hne))⟩
  c1 := fun i hi => cell_set_ne (h.c1 i hi) (addr_ne (fun e => absurd e hne))
  r1 := fun i hi => (h.r1 i hi).set_enc _ _ y
  bel := below_set h.bel (Nat.le_trans h.low hb1)
  kept := h.kept.setCell (.inl hb2) _
  low := h.low }
def laws_markCallS.n : Nat → List S33 → Int → Option Int
 | _, [], a => some a
 | k, x :: t, a => (laws_markText.f k (a)).bind fun _ => (laws_markIntS.n k x.f1.length (wrap64 (a + 1))).bind fun b1 => laws_markCallS.n k t (b1)
theorem laws_markCallS.n_mono (k : Nat) : ∀ t a, LeO (laws_markCallS.n k t a) (laws_markCallS.n (k + 1) t a)
 | [], a => LeO.refl _
 | x :: t, a => LeO.bind (laws_markText.mono _ _) (fun _ => LeO.bind (laws_markIntS.n_mono k _ _) (fun _ => laws_markCallS.n_mono k t _))
def laws_markCallS.f (k : Nat) (l0 : List (S33)) (a1 : Int) : Option (Int) := laws_markCallS.n k l0 a1
theorem laws_markCallS.mono : ∀ a0 a1 k, LeO (laws_markCallS.f k a0 a1) (laws_markCallS.f (k + 1) a0 a1) := fun a0 a1 k => laws_markCallS.n_mono k a0 a1
def MCall.h (w : World) (g : Nat) (i j : Nat) : Value := (w.cell? ⟨g, i * 2 + j, none⟩).getD (.slice none 0 0)
def MCall.l (l0 : List (S33)) (i j : Nat) : Nat := match j with
 | 1 => ((l0.getD i z33).f1).length
 | _ => 0
theorem MCall.start {base : Nat} {P : Nat → Prop} {A : Option Addr} {c : Nat} {l0 : List (S33)} {w0 w : World} (hB : Below w0.heap.size w0 w) (hlow : w0.heap.size ≤ base) (ho : Kd.R k33 33 w base P (.slice A l0.length c) l0) :
  ∃ g, (0 < l0.length → A = some ⟨g, 0, none⟩) ∧ MCall base g l0.length P (MCall.h w g) (MCall.l l0) w0 w w := by
 by_cases hn : 0 < l0.length
 ·obtain ⟨g, cap, hv, hb, _, hc⟩ := Kd.R_form ho hn
  have hA := slice_inj hv
  subst hA
  have el : ∀ i, i < l0.length → ∃ (ce : List Value) (v1 : Value), ce = [.string (l0.getD i z33).f0, v1] ∧ MRow (Value.int .i64) 3 base P (l0.getD i z33).f1.length v1 w ∧ (∀ j u, ce[j]? = some u → w.cell? ⟨g, i * 2 + j, none⟩ = some u) := by
   intro i hi
   obtain ⟨ce, hcl, hM, hcc, _⟩ := Kd.R_elem ho z33 (i : Int) (by omega) (by omega)
   rw [Int.toNat_natCast] at hcc
   obtain ⟨v1, rfl, g10⟩ := k33_openM hM
   have g1 := mrow_of (P := P) (0 : Int) g10 (fun k hk => hk.1)
   exact ⟨_, v1, rfl, g1, hcc⟩
  refine ⟨g, fun _ => rfl, ?_⟩
  refine { blk := fun _ => ⟨hb, ho.1 g (by simp [Value.ownBlock]), hc⟩, c0 := ?c0, c1 := ?c1, r1 := ?r1, bel := hB, kept := Kept.refl _ _, low := hlow }
  case c0 =>
   intro i hi
   obtain ⟨ce, v1, rfl, g1, hcc⟩ := el i hi
   exact ⟨_, hcc 0 _ rfl⟩
  case c1 =>
   intro i hi
   obtain ⟨ce, v1, rfl, g1, hcc⟩ := el i hi
   exact by
    have := hcc 1 _ rfl
    rw [show MCall.h w g i 1 = v1 from by unfold MCall.h; rw [this]; rfl]
    exact this
  case r1 =>
   intro i hi
   obtain ⟨ce, v1, rfl, g1, hcc⟩ := el i hi
   have := hcc 1 _ rfl
   rw [show MCall.h w g i 1 = v1 from by unfold MCall.h; rw [this]; rfl]
   exact g1
 ·exact ⟨0, fun h => absurd h hn, { blk := fun h => absurd h hn, c0 := fun i hi => absurd hi (by omega), c1 := fun i hi => absurd hi (by omega), r1 := fun i hi => absurd hi (by omega), bel := hB, kept := Kept.refl _ _, low := hlow }⟩
set_option maxHeartbeats 8000000 in
set_option maxRecDepth 100000 in
theorem laws_markCallS.walk (k : Nat) (A : Option Addr) (c : Nat) (l0 : List (S33)) (a1 r1 : Int) (base g : Nat) (P : Nat → Prop) (w0 w : World) (hA : 0 < l0.length → A = some ⟨g, 0, none⟩) (hI : MCall base g l0.length P (MCall.h w g) (MCall.l l0) w0 w w) (hn : l0.length ≤ 9223372036854775807) (h : laws_markCallS.n k l0 a1 = some r1) :
  Calls Try.prog 30 #[.slice A l0.length c, .int .i64 a1] w fun e w' => e = .returned (.int .i64 r1) ∧ MCall base g l0.length P (MCall.h w g) (MCall.l l0) w0 w w' := by
 have MV := Aside0.mk hI
 have HA := Aside0.mk hA
 have H := Aside0.mk h
 clear hI hA h
 go_enter Try.func30, Try.ntmps30
 go_wp2
 go_loopg [1, 5] l0.length (fun gg v1 v5 wr => ∃ (x1 x5 : Int) (m : Nat), v1 = .int .i64 x1 ∧ v5 = .int .i64 x5 ∧ Aside0 (0 ≤ x5 ∧ x5.toNat + m = l0.length) ∧ m ≤ gg ∧ Aside0 (laws_markCallS.n k (l0.drop x5.toNat) x1 = some r1) ∧ Aside0 (MCall base g l0.length P (MCall.h w g) (MCall.l l0) w0 w wr))
 case atStart => exact ⟨a1, 0, l0.length, rfl, rfl, ⟨by decide, by simp⟩, Nat.le_refl _, H, MV⟩
 case round =>
  clear H MV
  obtain ⟨x1, x5, m, rfl, rfl, HM, hg, H, MV⟩ := hrel
  cases m with
  | zero =>
   have c3b0 : decide (x5 < (l0.length : Int)) = false := decide_eq_false (by have := HM.out; omega)
   have hr := H.out
   rw [List.drop_of_length_le (by have := HM.out; omega)] at hr
   unfold laws_markCallS.n at hr
   obtain rfl := Option.some.inj hr
   clear H hr hg
   go_wp2
   go_ret
   exact ⟨rfl, MV.out⟩
  | succ m =>
   have c3b0 : decide (x5 < (l0.length : Int)) = true := decide_eq_true (by have := HM.out; omega)
   have p6 : (0 ≤ x5) = True := eq_true HM.out.1
   have q6 : (x5 < (l0.length : Int)) = True := eq_true (by have := HM.out; omega)
   have HLT := Aside0.mk (show x5.toNat < l0.length by have := HM.out; omega)
   have hr := H.out
   obtain ⟨x, hx⟩ : ∃ x, x = l0[x5.toNat]'HLT.out := ⟨_, rfl⟩
   have hgx : l0.getD x5.toNat z33 = x := by rw [hx, List.getD_eq_getElem?_getD, List.getElem?_eq_getElem HLT.out]; rfl
   rw [List.drop_eq_getElem_cons HLT.out, ← hx] at hr
   clear hx H
   unfold laws_markCallS.n at hr
   obtain ⟨t0, A00, hr⟩ := Option.bind_eq_some_iff.mp hr
   have A0 := Aside0.mk A00
   clear A00
   obtain ⟨b1, A10, hr⟩ := Option.bind_eq_some_iff.mp hr
   have A1 := Aside0.mk (show laws_markIntS.n k (MCall.l l0 (x5 : Int).toNat 1) (wrap64 (x1 + 1)) = some b1 by rw [show MCall.l l0 (x5 : Int).toNat 1 = x.f1.length from by show ((l0.getD _ _).f1).length = _; rw [hgx]]; exact A10)
   clear A10
   have H := Aside0.mk hr
   clear hr hgx
   have eA := HA.out (by have := HLT.out; omega)
   subst eA
   go_wp2_with (first | ((with_reducible refine gate_callee (f := 68) rfl ?_); refine goesL_ (some 15) rfl rfl Try.func68 (by kernel_rfl) rfl #[.int .i64 (x1)] rfl (by (try simp only [List.map_toArray, List.map_cons, List.map_nil]); first | done | rfl) ?_; (with_reducible refine (laws_markText.calls k (x1) t0 _ A0.out).mono ?_); rintro e w1 ⟨rfl, hb⟩; refine ⟨_, rfl, ?_⟩; replace MV := Aside0.mk (MV.out.below hb); clear hb; obtain ⟨s0_, hx0_⟩ := MV.out.c0 _ HLT.out; obtain ⟨cl0_, hcl0_⟩ := (MV.out.blk (by have := HLT.out; omega)).2.2; have hf0_ := blk_frozen hcl0_ ((x5 : Int).toNat * 2); clear hcl0_) | ((with_reducible refine gate_store (t := 9) (p := 17) rfl ?_); refine store_event (t := 9) (p := 17) (v := ?vo_w2) (w1 := (w1.setCell ⟨g, (x5 : Int).toNat * 2, none⟩ (.string t0))) ?hg ?ho ?hn ?hr ?_; (case ho => rfl); (case hg => rfl); (case hn => rfl); (case hr => first | (go_simp; done) | (go_simp; rfl)); intro w2 hw; replace MV := Aside0.mk (show MCall base g l0.length P (MCall.h w g) (MCall.l l0) w0 w w2 by rw [hw]; exact MV.out.set0 HLT.out _); clear hw; have hx1_ := MV.out.c1 _ HLT.out) | ((with_reducible refine gate_callee (f := 37) rfl ?_); refine goesL_ (some 26) rfl rfl Try.func37 (by kernel_rfl) rfl #[MCall.h w g (x5 : Int).toNat 1, .int .i64 (wrap64 (x1 + 1))] rfl (by (try simp only [List.map_toArray, List.map_cons, List.map_nil]); first | done | rfl) ?_; refine (laws_markIntS.walk k (MCall.l l0 (x5 : Int).toNat 1) (MCall.h w g (x5 : Int).toNat 1) (wrap64 (x1 + 1)) b1 base P _ (MCall base g l0.length P (MCall.h w g) (MCall.l l0) w0 w) MV.out (fun W h => h.r1 _ HLT.out) (fun W b c j y h e hj => h.put1 HLT.out e hj y) (fun W W' h hb => h.below hb) A1.out).mono ?_; rintro e w3 ⟨rfl, hI⟩; refine ⟨_, rfl, ?_⟩; have n0_ := Aside0.mk hI; clear MV hI; have MV := n0_; clear n0_))
   go_roundg m
   case measure => omega
   case rel => exact ⟨(b1), (wrap64 (x5 + 1)), m, (by first | rfl | (simp; done) | (simp [*]; done)), (by first | rfl | (simp; done) | (simp [*]; done)), ⟨by have := HM.out; rw [show wrap64 (x5 + 1) = x5 + 1 from by unfold wrap64; omega]; omega⟩, by omega, ⟨by have := HM.out; rw [show (wrap64 (x5 + 1)).toNat = x5.toNat + 1 from by unfold wrap64; omega]; exact H.out⟩, MV⟩
/-- .. as the laws call it: of what stood before only blocks in P are turned. -/
theorem laws_markCallS.calls (k : Nat) (P : Nat → Prop) (A : Option Addr) (c : Nat) (l0 : List (S33)) (a1 r1 : Int) (base : Nat) (w0 w : World) (hB : Below w0.heap.size w0 w) (hlow : w0.heap.size ≤ base) (ho : Kd.R k33 33 w base P (.slice A l0.length c) l0) (h : laws_markCallS.f k l0 a1 = some r1) :
  Calls Try.prog 30 #[.slice A l0.length c, .int .i64 a1] w fun e w' => e = .returned (.int .i64 r1) ∧ Below w0.heap.size w0 w' ∧ Kept w w' P := by
 obtain ⟨g, hA, hI⟩ := MCall.start hB hlow ho
 refine (laws_markCallS.walk k A c l0 a1 r1 base g P w0 w hA hI (by have := (Kd.R_reads' ho).2.2.2.1; omega) h).mono ?_
 rintro e w' ⟨rfl, hI'⟩
 exact ⟨rfl, hI'.bel, hI'.kept⟩

/-! ### laws_markExpectS: function 31 -/
structure MExpect (base g n : Nat) (P : Nat → Prop) (H : Nat → Nat → Value) (L : Nat → Nat → Nat) (w0 wS W : World) : Prop where
 blk : 0 < n → base ≤ g ∧ P g ∧ ∃ cells, W.heap[g]? = some (.cells cells 73 (0, 0))
 c0 : ∀ i, i < n → ∃ x, W.cell? ⟨g, i * 5, none⟩ = some (Value.string x)
 c1 : ∀ i, i < n → W.cell? ⟨g, i * 5 + 1, none⟩ = some (H i 1)
 r1 : ∀ i, i < n → MRow (Value.int .i64) 3 base P (L i 1) (H i 1) W
 c2 : ∀ i, i < n → ∃ x, W.cell? ⟨g, i * 5 + 2, none⟩ = some (Value.bool x)
 c3 : ∀ i, i < n → ∃ x, W.cell? ⟨g, i * 5 + 3, none⟩ = some (Value.int .i64 x)
 c4 : ∀ i, i < n → ∃ x, W.cell? ⟨g, i * 5 + 4, none⟩ = some (Value.int .i64 x)
 bel : Below w0.heap.size w0 W
 kept : Kept wS W P
 low : w0.heap.size ≤ base
theorem MExpect.below {base g n : Nat} {P : Nat → Prop} {H : Nat → Nat → Value} {L : Nat → Nat → Nat} {w0 wS W : World} (h : MExpect base g n P H L w0 wS W) {W' : World} (hb : Below W.heap.size W W') : MExpect base g n P H L w0 wS W' where
 blk hn := by
  obtain ⟨h1, h2, cells, h3⟩ := h.blk hn
  exact ⟨h1, h2, cells, (hb.block g (blk_lt h3)).trans h3⟩
 c0 i hi := by
  obtain ⟨x, hx⟩ := h.c0 i hi
  exact ⟨x, (hb.cell (World.block_lt_of_cell? _ _ hx)).trans hx⟩
 c1 i hi := (hb.cell (World.block_lt_of_cell? _ _ (h.c1 i hi))).trans (h.c1 i hi)
 r1 i hi := (h.r1 i hi).below hb
 c2 i hi := by
  obtain ⟨x, hx⟩ := h.c2 i hi
  exact ⟨x, (hb.cell (World.block_lt_of_cell? _ _ hx)).trans hx⟩
 c3 i hi := by
  obtain ⟨x, hx⟩ := h.c3 i hi
  exact ⟨x, (hb.cell (World.block_lt_of_cell? _ _ hx)).trans hx⟩
 c4 i hi := by
  obtain ⟨x, hx⟩ := h.c4 i hi
  exact ⟨x, (hb.cell (World.block_lt_of_cell? _ _ hx)).trans hx⟩
 bel := below_step h.bel hb
 kept := h.kept.below hb
 low := h.low
theorem MExpect.set0 {base g n : Nat} {P : Nat → Prop} {H : Nat → Nat → Value} {L : Nat → Nat → Nat} {w0 wS W : World} (h : MExpect base g n P H L w0 wS W) {m : Nat} (hm : m < n) (y : ByteArray) : MExpect base g n P H L w0 wS (W.setCell ⟨g, m * 5, none⟩ (Value.string y)) where
 blk hn := ⟨(h.blk hn).1, (h.blk hn).2.1, blkT_set (h.blk hn).2.2 _ _ _⟩
 c0 i hi := cell_set_enc (h.c0 i hi) _ y
 c1 i hi := cell_set_ne (h.c1 i hi) (addr_ne (fun _ => by omega))
 r1 i hi := (h.r1 i hi).set_other (h.blk (by omega)).2.2 (by decide) _ _
 c2 i hi := by
  obtain ⟨x, hx⟩ := h.c2 i hi
  exact ⟨x, cell_set_ne hx (addr_ne (fun _ => by omega))⟩
 c3 i hi := by
  obtain ⟨x, hx⟩ := h.c3 i hi
  exact ⟨x, cell_set_ne hx (addr_ne (fun _ => by omega))⟩
 c4 i hi := by
  obtain ⟨x, hx⟩ := h.c4 i hi
  exact ⟨x, cell_set_ne hx (addr_ne (fun _ => by omega))⟩
 bel := below_set h.bel (Nat.le_trans h.low (h.blk (by omega)).1)
 kept := h.kept.setCell (.inl (h.blk (by omega)).2.1) _
 low := h.low
theorem MExpect.set2 {base g n : Nat} {P : Nat → Prop} {H : Nat → Nat → Value} {L : Nat → Nat → Nat} {w0 wS W : World} (h : MExpect base g n P H L w0 wS W) {m : Nat} (hm : m < n) (y : Bool) : MExpect base g n P H L w0 wS (W.setCell ⟨g, m * 5 + 2, none⟩ (Value.bool y)) where
 blk hn := ⟨(h.blk hn).1, (h.blk hn).2.1, blkT_set (h.blk hn).2.2 _ _ _⟩
 c0 i hi := by
  obtain ⟨x, hx⟩ := h.c0 i hi
  exact ⟨x, cell_set_ne hx (addr_ne (fun _ => by omega))⟩
 c1 i hi := cell_set_ne (h.c1 i hi) (addr_ne (fun _ => by omega))
 r1 i hi := (h.r1 i hi).set_other (h.blk (by omega)).2.2 (by decide) _ _
 c2 i hi := cell_set_enc (h.c2 i hi) _ y
 c3 i hi := by
  obtain ⟨x, hx⟩ := h.c3 i hi
  exact ⟨x, cell_set_ne hx (addr_ne (fun _ => by omega))⟩
 c4 i hi := by
  obtain ⟨x, hx⟩ := h.c4 i hi
  exact ⟨x, cell_set_ne hx (addr_ne (fun _ => by omega))⟩
 bel := below_set h.bel (Nat.le_trans h.low (h.blk (by omega)).1)
 kept := h.kept.setCell (.inl (h.blk (by omega)).2.1) _
 low := h.low
theorem MExpect.set3 {base g n : Nat} {P : Nat → Prop} {H : Nat → Nat → Value} {L : Nat → Nat → Nat} {w0 wS W : World} (h : MExpect base g n P H L w0 wS W) {m : Nat} (hm : m < n) (y : Int) : MExpect base g n P H L w0 wS (W.setCell ⟨g, m * 5 + 3, none⟩ (Value.int .i64 y)) where
 blk hn := ⟨(h.blk hn).1, (h.blk hn).2.1, blkT_set (h.blk hn).2.2 _ _ _⟩
 c0 i hi := by
  obtain ⟨x, hx⟩ := h.c0 i hi
  exact ⟨x, cell_set_ne hx (addr_ne (fun _ => by omega))⟩
 c1 i hi := cell_set_ne (h.c1 i hi) (addr_ne (fun _ => by omega))
 r1 i hi := (h.r1 i hi).set_other (h.blk (by omega)).2.2 (by decide) _ _
 c2 i hi := by
  obtain ⟨x, hx⟩ := h.c2 i hi
  exact ⟨x, cell_set_ne hx (addr_ne (fun _ => by omega))⟩
 c3 i hi := cell_set_enc (h.c3 i hi) _ y
 c4 i hi := by
  obtain ⟨x, hx⟩ := h.c4 i hi
  exact ⟨x, cell_set_ne hx (addr_ne (fun _ => by omega))⟩
 bel := below_set h.bel (Nat.le_trans h.low (h.blk (by omega)).1)
 kept := h.kept.setCell (.inl (h.blk (by omega)).2.1) _
 low := h.low
theorem MExpect.set4 {base g n : Nat} {P : Nat → Prop} {H : Nat → Nat → Value} {L : Nat → Nat → Nat} {w0 wS W : World} (h : MExpect base g n P H L w0 wS W) {m : Nat} (hm : m < n) (y : Int) : MExpect base g n P H L w0 wS (W.setCell ⟨g, m * 5 + 4, none⟩ (Value.int .i64 y)) where
 blk hn := ⟨(h.blk hn).1, (h.blk hn).2.1, blkT_set (h.blk hn).2.2 _ _ _⟩
 c0 i hi := by
  obtain ⟨x, hx⟩ := h.c0 i hi
  exact ⟨x, cell_set_ne hx (addr_ne (fun _ => by omega))⟩
 c1 i hi := cell_set_ne (h.c1 i hi) (addr_ne (fun _ => by omega))
 r1 i hi := (h.r1 i hi).set_other (h.blk (by omega)).2.2 (by decide) _ _
 c2 i hi := by
  obtain ⟨x, hx⟩ := h.c2 i hi
  exact ⟨x, cell_set_ne hx (addr_ne (fun _ => by omega))⟩
 c3 i hi := by
  obtain ⟨x, hx⟩ := h.c3 i hi
  exact ⟨x, cell_set_ne hx (addr_ne (fun _ => by omega))⟩
 c4 i hi := cell_set_enc (h.c4 i hi) _ y
 bel := below_set h.bel (Nat.le_trans h.low (h.blk (by omega)).1)
 kept := h.kept.setCell (.inl (h.blk (by omega)).2.1) _
 low := h.low
theorem MExpect.put1 {base g n : Nat} {P : Nat → Prop} {H : Nat → Nat → Value} {L : Nat → Nat → Nat} {w0 wS W : World} (h : MExpect base g n P H L w0 wS W) {m b c j : Nat} (hm : m < n) (hv : H m 1 = .slice (some ⟨b, 0, none⟩) (L m 1) c) (hj : j < L m 1) (y : Int) : MExpect base g n P H L w0 wS (W.setCell ⟨b, j, none⟩ (Value.int .i64 y)) := by
 obtain ⟨A, c', e1, _, hR⟩ := h.r1 m hm
 obtain ⟨b', hA, hb1, hb2, hb3, _⟩ := hR (by omega)
 have e4 := addr_inj ((slice_inj (hv.symm.trans e1)).trans hA)
 subst e4
 obtain ⟨_, hg⟩ := (h.blk (by omega)).2.2
 obtain ⟨_, hb4⟩ := hb3
 have hne : b ≠ g := blk_ne hb4 hg (by decide)
 exact {
  blk := fun hn => ⟨(h.blk hn).1, (h.blk hn).2.1, blkT_set (h.blk hn).2.2 _ _ _⟩
  c0 := fun i hi => by
   obtain ⟨x, hx⟩ := h.c0 i hi
   exact ⟨x, cell_set_ne hx (addr_ne (fun e => absurd e hne))⟩
  c1 := fun i hi => cell_set_ne (h.c1 i hi) (addr_ne (fun e => absurd e hne))
  r1 := fun i hi => (h.r1 i hi).set_enc _ _ y
  c2 := fun i hi => by
   obtain ⟨x, hx⟩ := h.c2 i hi
   exact ⟨x, cell_set_ne hx (addr_ne (fun e => absurd e hne))⟩
  c3 := fun i hi => by
   obtain ⟨x, hx⟩ := h.c3 i hi
   exact ⟨x, cell_set_ne hx (addr_ne (fun e => absurd e hne))⟩
  c4 := fun i hi => by
   obtain ⟨x, hx⟩ := h.c4 i hi
   exact ⟨x, cell_set_ne hx (addr_ne (fun e => absurd e hne))⟩
  bel := below_set h.bel (Nat.le_trans h.low hb1)
  kept := h.kept.setCell (.inl hb2) _
  low := h.low }
def laws_markExpectS.n : Nat → List S73 → Int → Option Int
 | _, [], a => some a
 | k, x :: t, a => (laws_markText.f k (a)).bind fun _ => (laws_markIntS.n k x.f1.length (wrap64 (a + 1))).bind fun b1 => laws_markExpectS.n k t (wrap64 (wrap64 (wrap64 (b1 + 1) + 1) + 1))
theorem laws_markExpectS.n_mono (k : Nat) : ∀ t a, LeO (laws_markExpectS.n k t a) (laws_markExpectS.n (k + 1) t a)
 | [], a => LeO.refl _
 | x :: t, a => LeO.bind (laws_markText.mono _ _) (fun _ => LeO.bind (laws_markIntS.n_mono k _ _) (fun _ => laws_markExpectS.n_mono k t _))
def laws_markExpectS.f (k : Nat) (l0 : List (S73)) (a1 : Int) : Option (Int) := laws_markExpectS.n k l0 a1
theorem laws_markExpectS.mono : ∀ a0 a1 k, LeO (laws_markExpectS.f k a0 a1) (laws_markExpectS.f (k + 1) a0 a1) := fun a0 a1 k => laws_markExpectS.n_mono k a0 a1
def MExpect.h (w : World) (g : Nat) (i j : Nat) : Value := (w.cell? ⟨g, i * 5 + j, none⟩).getD (.slice none 0 0)
def MExpect.l (l0 : List (S73)) (i j : Nat) : Nat := match j with
 | 1 => ((l0.getD i z73).f1).length
 | _ => 0
theorem MExpect.start {base : Nat} {P : Nat → Prop} {A : Option Addr} {c : Nat} {l0 : List (S73)} {w0 w : World} (hB : Below w0.heap.size w0 w) (hlow : w0.heap.size ≤ base) (ho : Kd.R k73 73 w base P (.slice A l0.length c) l0) :
  ∃ g, (0 < l0.length → A = some ⟨g, 0, none⟩) ∧ MExpect base g l0.length P (MExpect.h w g) (MExpect.l l0) w0 w w := by
 by_cases hn : 0 < l0.length
 ·obtain ⟨g, cap, hv, hb, _, hc⟩ := Kd.R_form ho hn
  have hA := slice_inj hv
  subst hA
  have el : ∀ i, i < l0.length → ∃ (ce : List Value) (v1 : Value), ce = [.string (l0.getD i z73).f0, v1, .bool (l0.getD i z73).f2, .int .i64 (l0.getD i z73).f3, .int .i64 (l0.getD i z73).f4] ∧ MRow (Value.int .i64) 3 base P (l0.getD i z73).f1.length v1 w ∧ (∀ j u, ce[j]? = some u → w.cell? ⟨g, i * 5 + j, none⟩ = some u) := by
   intro i hi
   obtain ⟨ce, hcl, hM, hcc, _⟩ := Kd.R_elem ho z73 (i : Int) (by omega) (by omega)
   rw [Int.toNat_natCast] at hcc
   obtain ⟨v1, rfl, g10⟩ := k73_openM hM
   have g1 := mrow_of (P := P) (0 : Int) g10 (fun k hk => hk.1)
   exact ⟨_, v1, rfl, g1, hcc⟩
  refine ⟨g, fun _ => rfl, ?_⟩
  refine { blk := fun _ => ⟨hb, ho.1 g (by simp [Value.ownBlock]), hc⟩, c0 := ?c0, c1 := ?c1, c2 := ?c2, c3 := ?c3, c4 := ?c4, r1 := ?r1, bel := hB, kept := Kept.refl _ _, low := hlow }
  case c0 =>
   intro i hi
   obtain ⟨ce, v1, rfl, g1, hcc⟩ := el i hi
   exact ⟨_, hcc 0 _ rfl⟩
  case c1 =>
   intro i hi
   obtain ⟨ce, v1, rfl, g1, hcc⟩ := el i hi
   exact by
    have := hcc 1 _ rfl
    rw [show MExpect.h w g i 1 = v1 from by unfold MExpect.h; rw [this]; rfl]
    exact this
  case c2 =>
   intro i hi
   obtain ⟨ce, v1, rfl, g1, hcc⟩ := el i hi
   exact ⟨_, hcc 2 _ rfl⟩
  case c3 =>
   intro i hi
   obtain ⟨ce, v1, rfl, g1, hcc⟩ := el i hi
   exact ⟨_, hcc 3 _ rfl⟩
  case c4 =>
   intro i hi
   obtain ⟨ce, v1, rfl, g1, hcc⟩ := el i hi
   exact ⟨_, hcc 4 _ rfl⟩
  case r1 =>
   intro i hi
   obtain ⟨ce, v1, rfl, g1, hcc⟩ := el i hi
   have := hcc 1 _ rfl
   rw [show MExpect.h w g i 1 = v1 from by unfold MExpect.h; rw [this]; rfl]
   exact g1
 ·exact ⟨0, fun h => absurd h hn, { blk := fun h => absurd h hn, c0 := fun i hi => absurd hi (by omega), c1 := fun i hi => absurd hi (by omega), c2 := fun i hi => absurd hi (by omega), c3 := fun i hi => absurd hi (by omega), c4 := fun i hi => absurd hi (by omega), r1 := fun i hi => absurd hi (by omega), bel := hB, kept := Kept.refl _ _, low := hlow }⟩
set_option maxHeartbeats 8000000 in
set_option maxRecDepth 100000 in
theorem laws_markExpectS.walk (k : Nat) (A : Option Addr) (c : Nat) (l0 : List (S73)) (a1 r1 : Int) (base g : Nat) (P : Nat → Prop) (w0 w : World) (hA : 0 < l0.length → A = some ⟨g, 0, none⟩) (hI : MExpect base g l0.length P (MExpect.h w g) (MExpect.l l0) w0 w w) (hn : l0.length ≤ 9223372036854775807) (h : laws_markExpectS.n k l0 a1 = some r1) :
  Calls Try.prog 31 #[.slice A l0.length c, .int .i64 a1] w fun e w' => e = .returned (.int .i64 r1) ∧ MExpect base g l0.length P (MExpect.h w g) (MExpect.l l0) w0 w w' := by
 have MV := Aside0.mk hI
 have HA := Aside0.mk hA
 have H := Aside0.mk h
 clear hI hA h
 go_enter Try.func31, Try.ntmps31
 go_wp2
 go_loopg [1, 5] l0.length (fun gg v1 v5 wr => ∃ (x1 x5 : Int) (m : Nat), v1 = .int .i64 x1 ∧ v5 = .int .i64 x5 ∧ Aside0 (0 ≤ x5 ∧ x5.toNat + m = l0.length) ∧ m ≤ gg ∧ Aside0 (laws_markExpectS.n k (l0.drop x5.toNat) x1 = some r1) ∧ Aside0 (MExpect base g l0.length P (MExpect.h w g) (MExpect.l l0) w0 w wr))
 case atStart => exact ⟨a1, 0, l0.length, rfl, rfl, ⟨by decide, by simp⟩, Nat.le_refl _, H, MV⟩
 case round =>
  clear H MV
  obtain ⟨x1, x5, m, rfl, rfl, HM, hg, H, MV⟩ := hrel
  cases m with
  | zero =>
   have c3b0 : decide (x5 < (l0.length : Int)) = false := decide_eq_false (by have := HM.out; omega)
   have hr := H.out
   rw [List.drop_of_length_le (by have := HM.out; omega)] at hr
   unfold laws_markExpectS.n at hr
   obtain rfl := Option.some.inj hr
   clear H hr hg
   go_wp2
   go_ret
   exact ⟨rfl, MV.out⟩
  | succ m =>
   have c3b0 : decide (x5 < (l0.length : Int)) = true := decide_eq_true (by have := HM.out; omega)
   have p6 : (0 ≤ x5) = True := eq_true HM.out.1
   have q6 : (x5 < (l0.length : Int)) = True := eq_true (by have := HM.out; omega)
   have HLT := Aside0.mk (show x5.toNat < l0.length by have := HM.out; omega)
   have hr := H.out
   obtain ⟨x, hx⟩ : ∃ x, x = l0[x5.toNat]'HLT.out := ⟨_, rfl⟩
   have hgx : l0.getD x5.toNat z73 = x := by rw [hx, List.getD_eq_getElem?_getD, List.getElem?_eq_getElem HLT.out]; rfl
   rw [List.drop_eq_getElem_cons HLT.out, ← hx] at hr
   clear hx H
   unfold laws_markExpectS.n at hr
   obtain ⟨t0, A00, hr⟩ := Option.bind_eq_some_iff.mp hr
   have A0 := Aside0.mk A00
   clear A00
   obtain ⟨b1, A10, hr⟩ := Option.bind_eq_some_iff.mp hr
   have A1 := Aside0.mk (show laws_markIntS.n k (MExpect.l l0 (x5 : Int).toNat 1) (wrap64 (x1 + 1)) = some b1 by rw [show MExpect.l l0 (x5 : Int).toNat 1 = x.f1.length from by show ((l0.getD _ _).f1).length = _; rw [hgx]]; exact A10)
   clear A10
   have H := Aside0.mk hr
   clear hr hgx
   have eA := HA.out (by have := HLT.out; omega)
   subst eA
   go_wp2_with (first | ((with_reducible refine gate_callee (f := 68) rfl ?_); refine goesL_ (some 15) rfl rfl Try.func68 (by kernel_rfl) rfl #[.int .i64 (x1)] rfl (by (try simp only [List.map_toArray, List.map_cons, List.map_nil]); first | done | rfl) ?_; (with_reducible refine (laws_markText.calls k (x1) t0 _ A0.out).mono ?_); rintro e w1 ⟨rfl, hb⟩; refine ⟨_, rfl, ?_⟩; replace MV := Aside0.mk (MV.out.below hb); clear hb; obtain ⟨s0_, hx0_⟩ := MV.out.c0 _ HLT.out; obtain ⟨cl0_, hcl0_⟩ := (MV.out.blk (by have := HLT.out; omega)).2.2; have hf0_ := blk_frozen hcl0_ ((x5 : Int).toNat * 5); clear hcl0_) | ((with_reducible refine gate_store (t := 9) (p := 17) rfl ?_); refine store_event (t := 9) (p := 17) (v := ?vo_w2) (w1 := (w1.setCell ⟨g, (x5 : Int).toNat * 5, none⟩ (.string t0))) ?hg ?ho ?hn ?hr ?_; (case ho => rfl); (case hg => rfl); (case hn => rfl); (case hr => first | (go_simp; done) | (go_simp; rfl)); intro w2 hw; replace MV := Aside0.mk (show MExpect base g l0.length P (MExpect.h w g) (MExpect.l l0) w0 w w2 by rw [hw]; exact MV.out.set0 HLT.out _); clear hw; have hx1_ := MV.out.c1 _ HLT.out) | ((with_reducible refine gate_callee (f := 37) rfl ?_); refine goesL_ (some 26) rfl rfl Try.func37 (by kernel_rfl) rfl #[MExpect.h w g (x5 : Int).toNat 1, .int .i64 (wrap64 (x1 + 1))] rfl (by (try simp only [List.map_toArray, List.map_cons, List.map_nil]); first | done | rfl) ?_; refine (laws_markIntS.walk k (MExpect.l l0 (x5 : Int).toNat 1) (MExpect.h w g (x5 : Int).toNat 1) (wrap64 (x1 + 1)) b1 base P _ (MExpect base g l0.length P (MExpect.h w g) (MExpect.l l0) w0 w) MV.out (fun W h => h.r1 _ HLT.out) (fun W b c j y h e hj => h.put1 HLT.out e hj y) (fun W W' h hb => h.below hb) A1.out).mono ?_; rintro e w3 ⟨rfl, hI⟩; refine ⟨_, rfl, ?_⟩; have n0_ := Aside0.mk hI; clear MV hI; have MV := n0_; clear n0_; obtain ⟨s2_, hx2_⟩ := MV.out.c2 _ HLT.out; obtain ⟨cl2_, hcl2_⟩ := (MV.out.blk (by have := HLT.out; omega)).2.2; have hf2_ := blk_frozen hcl2_ ((x5 : Int).toNat * 5 + 2); clear hcl2_) | ((with_reducible refine gate_store (t := 4) (p := 33) rfl ?_); refine store_event (t := 4) (p := 33) (v := ?vo_w4) (w1 := (w3.setCell ⟨g, (x5 : Int).toNat * 5 + 2, none⟩ (.bool (decide (Int.tmod (b1) 3 = 0))))) ?hg ?ho ?hn ?hr ?_; (case ho => rfl); (case hg => rfl); (case hn => rfl); (case hr => first | (go_simp; done) | (go_simp; rfl)); intro w4 hw; replace MV := Aside0.mk (show MExpect base g l0.length P (MExpect.h w g) (MExpect.l l0) w0 w w4 by rw [hw]; exact MV.out.set2 HLT.out _); clear hw; obtain ⟨s3_, hx3_⟩ := MV.out.c3 _ HLT.out; obtain ⟨cl3_, hcl3_⟩ := (MV.out.blk (by have := HLT.out; omega)).2.2; have hf3_ := blk_frozen hcl3_ ((x5 : Int).toNat * 5 + 3); clear hcl3_) | ((with_reducible refine gate_store (t := 3) (p := 40) rfl ?_); refine store_event (t := 3) (p := 40) (v := ?vo_w5) (w1 := (w4.setCell ⟨g, (x5 : Int).toNat * 5 + 3, none⟩ (.int .i64 (wrap64 (b1 + 1))))) ?hg ?ho ?hn ?hr ?_; (case ho => rfl); (case hg => rfl); (case hn => rfl); (case hr => first | (go_simp; done) | (go_simp; rfl)); intro w5 hw; replace MV := Aside0.mk (show MExpect base g l0.length P (MExpect.h w g) (MExpect.l l0) w0 w w5 by rw [hw]; exact MV.out.set3 HLT.out _); clear hw; obtain ⟨s4_, hx4_⟩ := MV.out.c4 _ HLT.out; obtain ⟨cl4_, hcl4_⟩ := (MV.out.blk (by have := HLT.out; omega)).2.2; have hf4_ := blk_frozen hcl4_ ((x5 : Int).toNat * 5 + 4); clear hcl4_) | ((with_reducible refine gate_store (t := 3) (p := 47) rfl ?_); refine store_event (t := 3) (p := 47) (v := ?vo_w6) (w1 := (w5.setCell ⟨g, (x5 : Int).toNat * 5 + 4, none⟩ (.int .i64 (wrap64 (wrap64 (b1 + 1) + 1))))) ?hg ?ho ?hn ?hr ?_; (case ho => rfl); (case hg => rfl); (case hn => rfl); (case hr => first | (go_simp; done) | (go_simp; rfl)); intro w6 hw; replace MV := Aside0.mk (show MExpect base g l0.length P (MExpect.h w g) (MExpect.l l0) w0 w w6 by rw [hw]; exact MV.out.set4 HLT.out _); clear hw))
   go_roundg m
   case measure => omega
   case rel => exact ⟨(wrap64 (wrap64 (wrap64 (b1 + 1) + 1) + 1)), (wrap64 (x5 + 1)), m, (by first | rfl | (simp; done) | (simp [*]; done)), (by first | rfl | (simp; done) | (simp [*]; done)), ⟨by have := HM.out; rw [show wrap64 (x5 + 1) = x5 + 1 from by unfold wrap64; omega]; omega⟩, by omega, ⟨by have := HM.out; rw [show (wrap64 (x5 + 1)).toNat = x5.toNat + 1 from by unfold wrap64; omega]; exact H.out⟩, MV⟩
/-- .. as the laws call it: of what stood before only blocks in P are turned. -/
theorem laws_markExpectS.calls (k : Nat) (P : Nat → Prop) (A : Option Addr) (c : Nat) (l0 : List (S73)) (a1 r1 : Int) (base : Nat) (w0 w : World) (hB : Below w0.heap.size w0 w) (hlow : w0.heap.size ≤ base) (ho : Kd.R k73 73 w base P (.slice A l0.length c) l0) (h : laws_markExpectS.f k l0 a1 = some r1) :
  Calls Try.prog 31 #[.slice A l0.length c, .int .i64 a1] w fun e w' => e = .returned (.int .i64 r1) ∧ Below w0.heap.size w0 w' ∧ Kept w w' P := by
 obtain ⟨g, hA, hI⟩ := MExpect.start hB hlow ho
 refine (laws_markExpectS.walk k A c l0 a1 r1 base g P w0 w hA hI (by have := (Kd.R_reads' ho).2.2.2.1; omega) h).mono ?_
 rintro e w' ⟨rfl, hI'⟩
 exact ⟨rfl, hI'.bel, hI'.kept⟩

/-! ### laws_heldIntS: function 38 -/
def laws_heldIntS.l0 : Nat → List Int → Int → Int → Option (Int)
 | 0, _, _, _ => none
 | k + 1, x0, x1, x5 => if x5 < (x0.length : Int) then (if 0 ≤ x5 then (if (rd x0 x5) = x1 then (laws_heldIntS.l0 k x0 (wrap64 (x1 + 1)) (wrap64 (x5 + 1))) else (some (-1))) else (none)) else (some x1)
def laws_heldIntS.f (k : Nat) (l0 : List Int) (a1 : Int) : Option (Int) := laws_heldIntS.l0 k l0 a1 0
theorem laws_heldIntS.mono_l : ∀ k, (∀ y0 y1 y2, LeO (laws_heldIntS.l0 k y0 y1 y2) (laws_heldIntS.l0 (k + 1) y0 y1 y2))
 | 0 => fun _ _ _ r h => by simp [laws_heldIntS.l0] at h
 | k + 1 => by
  have ih0 := laws_heldIntS.mono_l k
  ·intro y0 y1 y2
   unfold laws_heldIntS.l0
   repeat' first
   | (with_reducible exact ih0 _ _ _)
   | (with_reducible exact LeO.refl _)
   | (with_reducible exact LeO.none _)
   | (with_reducible refine LeO.ite ?_ ?_)
   | (with_reducible refine LeO.bind ?_ (fun _ => ?_))
   | refine LeO.ite ?_ ?_
   | refine LeO.bind ?_ (fun _ => ?_)
theorem laws_heldIntS.mono : ∀ a0 a1 k, LeO (laws_heldIntS.f k a0 a1) (laws_heldIntS.f (k + 1) a0 a1) := by
 intro a0 a1 k
 have ih0 := laws_heldIntS.mono_l k
 unfold laws_heldIntS.f
 repeat' first
   | (with_reducible exact ih0 _ _ _)
   | (with_reducible exact LeO.refl _)
   | (with_reducible exact LeO.none _)
   | (with_reducible refine LeO.ite ?_ ?_)
   | (with_reducible refine LeO.bind ?_ (fun _ => ?_))
   | refine LeO.ite ?_ ?_
   | refine LeO.bind ?_ (fun _ => ?_)
set_option maxHeartbeats 8000000 in
set_option maxRecDepth 100000 in
theorem laws_heldIntS.calls (k : Nat) (A0 : Option Addr) (c0 : Nat) (l0 : List Int) (a1 : Int) (r : Int) (w : World) (hr0 : Kd.C (Kd.int .i64) w A0 l0.length l0) (hc0 : l0.length ≤ c0) (h : laws_heldIntS.f k l0 a1 = some r) :
  Calls Try.prog 38 #[.slice A0 l0.length c0, .int .i64 a1] w fun e w' => e = .returned (.int .i64 r) ∧ Drawn0 w w' := by
 have HR0 := Aside0.mk hr0; have HC0 := Aside0.mk hc0; clear hr0 hc0
 have H : (laws_heldIntS.l0 k l0 a1 0) = some r := h
 clear h; have H' := Aside0.mk H; clear H
 go_enter Try.func38, Try.ntmps38
 go_wp2
 go_loopg [1, 5] k (fun kq v1 v5 w' => ∃ (x1_1 : Int) (x5_1 : Int), v1 = .int .i64 x1_1 ∧ v5 = .int .i64 x5_1 ∧ Aside0 (laws_heldIntS.l0 kq l0 x1_1 x5_1 = some r) ∧ Aside0 (kq ≤ k) ∧ Drawn0 w w')
 case atStart => exact ⟨(a1), (0), (by first | rfl | (simp; done) | (simp [*]; done)), (by first | rfl | (simp; done) | (simp [*]; done)), H', ⟨Nat.le_refl _⟩, by repeat (first | exact Drawn0.refl _ | apply Drawn0.step)⟩
 case round =>
  clear H'; try clear p2
  obtain ⟨x1_1, x5_1, rfl, rfl, HA, HK1, ⟨m1, rfl⟩⟩ := hrel
  cases gk with
  | zero => exact absurd HA.out (by simp [laws_heldIntS.l0])
  | succ k1 =>
   have H := HA.out; clear HA
   simp only [laws_heldIntS.l0] at H
   by_cases c3 : x5_1 < (l0.length : Int)
   ·rw [if_pos c3] at H
    have c3b0 : decide (x5_1 < (l0.length : Int)) = true := decide_eq_true c3
    clear c3
    by_cases c4 : 0 ≤ x5_1
    ·rw [if_pos c4] at H
     have c4b0 : decide (0 ≤ x5_1) = true := decide_eq_true c4
     clear c4
     by_cases c5 : (rd l0 x5_1) = x1_1
     ·rw [if_pos c5] at H
      have c5b0 : ((rd l0 x5_1) == x1_1) = true := beq_iff_eq.mpr c5
      have c5b1 : ((rd l0 x5_1) != x1_1) = false := bne_eq_false_iff_eq.mpr c5
      clear c5; have H' := Aside0.mk H; clear H
      have p233 : 0 ≤ (x5_1 : Int) := of_decide_eq_true (by first | (with_reducible assumption) | assumption)
      have q233 : x5_1 < (l0.length : Int) := of_decide_eq_true (by first | (with_reducible assumption) | assumption)
      obtain ⟨ad233, e233, hx233_0⟩ := Kd.at_int HR0.out x5_1 p233 q233
      cases e233
      replace p233 := eq_true p233
      replace q233 := eq_true q233
      go_wp2
      go_roundg k1
      case measure => have := HK1.out; omega
      case rel => exact ⟨(wrap64 (x1_1 + 1)), (wrap64 (x5_1 + 1)), (by first | rfl | (simp; done) | (simp [*]; done)), (by first | rfl | (simp; done) | (simp [*]; done)), H', ⟨by have := HK1.out; omega⟩, by repeat (first | exact Drawn0.refl _ | apply Drawn0.step)⟩
     ·rw [if_neg c5] at H
      have c5b0 : ((rd l0 x5_1) == x1_1) = false := beq_eq_false_iff_ne.mpr c5
      have c5b1 : ((rd l0 x5_1) != x1_1) = true := bne_iff_ne.mpr c5
      obtain rfl := Option.some.inj H
      have p233 : 0 ≤ (x5_1 : Int) := of_decide_eq_true (by first | (with_reducible assumption) | assumption)
      have q233 : x5_1 < (l0.length : Int) := of_decide_eq_true (by first | (with_reducible assumption) | assumption)
      obtain ⟨ad233, e233, hx233_0⟩ := Kd.at_int HR0.out x5_1 p233 q233
      cases e233
      replace p233 := eq_true p233
      replace q233 := eq_true q233
      go_wp2
      go_ret
      exact ⟨by first | rfl | (simp; done) | (simp [*]; done), by repeat (first | exact Drawn0.refl _ | apply Drawn0.step)⟩
    ·rw [if_neg c4] at H
     exact absurd H (by simp)
   ·rw [if_neg c3] at H
    have c3b0 : decide (x5_1 < (l0.length : Int)) = false := decide_eq_false c3
    clear c3
    obtain rfl := Option.some.inj H
    go_wp2
    go_ret
    exact ⟨by first | rfl | (simp; done) | (simp [*]; done), by repeat (first | exact Drawn0.refl _ | apply Drawn0.step)⟩

end Go.Proofs.Ytcbkpdgbijdbbaa.R
