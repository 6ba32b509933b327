-- WRITTEN by wip/ext.py
import Derived.Test.YtieghkchhjailaaVx0
import Derived.Test.YtieghkchhjailaaVx7
namespace Go.Proofs.Ytieghkchhjailaa.V
open Go.RowKit Go.Proofs.YtieghkchhjailaaW.PrintWords Go.Proofs.YtieghkchhjailaaW.PrintLast Go.Proofs.YtieghkchhjailaaW.PrintMore
attribute [local go_sem] max2_int min2_int max_two min_two max_three min_three max_four min_four   -- for this text's walks alone
set_option linter.unusedVariables false
set_option linter.unusedSimpArgs false

/-! ### laws_markReportS: function 24 -/
/-- A row of values of one kind, whatever they are; its block is in P. -/
def MRow {α : Type} (enc : α → Value) (T base : Nat) (P : Nat → Prop) (n : Nat) (v : Value) (W : World) : Prop :=
 ∃ A c, v = .slice A n c ∧ n ≤ 9223372036854775807 ∧ (0 < n → ∃ g, A = some ⟨g, 0, none⟩ ∧ base ≤ g ∧ P g ∧ (∃ cells, W.heap[g]? = some (.cells cells T (0, 0))) ∧ ∀ j, j < n → ∃ x, W.cell? ⟨g, j, none⟩ = some (enc x))
theorem blkT_set {W : World} {g T : Nat} (h : ∃ cells, W.heap[g]? = some (.cells cells T (0, 0))) (b i : Nat) (u : Value) : ∃ cells, (W.setCell ⟨b, i, none⟩ u).heap[g]? = some (.cells cells T (0, 0)) := by
 obtain ⟨cells, h⟩ := h
 by_cases hp : g = b
 ·subst hp
  exact ⟨cells.setIfInBounds i u, by simp [World.setCell, Array.getElem?_modify, h]⟩
 ·exact ⟨cells, (Below.heap_setCell W ⟨b, i, none⟩ u g hp).trans h⟩
theorem cell_set_enc {α : Type} {enc : α → Value} {W : World} {p : Addr} (h : ∃ x, W.cell? p = some (enc x)) (q : Addr) (y : α) : ∃ x, (W.setCell q (enc y)).cell? p = some (enc x) := by
 obtain ⟨x, h⟩ := h
 by_cases e : q = p
 ·subst e
  exact ⟨y, World.cell?_setCell_same _ _ _ h⟩
 ·exact ⟨x, (World.cell?_setCell_other _ _ _ _ e).trans h⟩
theorem cell_set_ne {W : World} {p q : Addr} {u v : Value} (h : W.cell? p = some u) (e : q ≠ p) : (W.setCell q v).cell? p = some u := (World.cell?_setCell_other _ _ _ _ e).trans h
theorem slice_inj {A A' : Option Addr} {n n' c c' : Nat} (h : Value.slice A n c = Value.slice A' n' c') : A = A' := by
 injection h
theorem addr_inj {g g' : Nat} (h : (some ⟨g, 0, none⟩ : Option Addr) = some ⟨g', 0, none⟩) : g = g' := by
 injection h with h
 injection h
theorem addr_ne {b b' i i' : Nat} (h : b = b' → i ≠ i') : (⟨b, i, none⟩ : Addr) ≠ ⟨b', i', none⟩ := by
 intro e
 injection e with e1 e2 _
 exact h e1 e2
theorem MRow.below {α : Type} {enc : α → Value} {T base : Nat} {P : Nat → Prop} {n : Nat} {v : Value} {W W' : World} (h : MRow enc T base P n v W) (hb : Below W.heap.size W W') : MRow enc T base P n v W' := by
 obtain ⟨A, c, hv, hl, h⟩ := h
 refine ⟨A, c, hv, hl, fun hn => ?_⟩
 obtain ⟨g, hA, h1, h2, ⟨cells, h3⟩, h4⟩ := h hn
 refine ⟨g, hA, h1, h2, ⟨cells, (hb.block g (blk_lt h3)).trans h3⟩, fun j hj => ?_⟩
 obtain ⟨x, hx⟩ := h4 j hj
 exact ⟨x, (hb.cell (World.block_lt_of_cell? _ _ hx)).trans hx⟩
theorem MRow.set_enc {α : Type} {enc : α → Value} {T base : Nat} {P : Nat → Prop} {n : Nat} {v : Value} {W : World} (h : MRow enc T base P n v W) (b i : Nat) (x : α) : MRow enc T base P n v (W.setCell ⟨b, i, none⟩ (enc x)) := by
 obtain ⟨A, c, hv, hl, h⟩ := h
 refine ⟨A, c, hv, hl, fun hn => ?_⟩
 obtain ⟨g, hA, h1, h2, h3, h4⟩ := h hn
 exact ⟨g, hA, h1, h2, blkT_set h3 b i _, fun j hj => cell_set_enc (h4 j hj) _ x⟩
theorem MRow.set_other {α : Type} {enc : α → Value} {T base : Nat} {P : Nat → Prop} {n : Nat} {v : Value} {W : World} (h : MRow enc T base P n v W) {b T' : Nat} (hb : ∃ cells, W.heap[b]? = some (.cells cells T' (0, 0))) (ht : T' ≠ T) (i : Nat) (u : Value) : MRow enc T base P n v (W.setCell ⟨b, i, none⟩ u) := by
 obtain ⟨A, c, hv, hl, h⟩ := h
 refine ⟨A, c, hv, hl, fun hn => ?_⟩
 obtain ⟨g, hA, h1, h2, h3, h4⟩ := h hn
 obtain ⟨_, hb⟩ := hb
 have h3c := h3
 obtain ⟨_, h3'⟩ := h3c
 have hne : b ≠ g := blk_ne hb h3' ht
 refine ⟨g, hA, h1, h2, blkT_set h3 b i _, fun j hj => ?_⟩
 obtain ⟨x, hx⟩ := h4 j hj
 exact ⟨x, cell_set_ne hx (addr_ne (fun e => absurd e hne))⟩
theorem Kd.R_flat {α : Type} {enc : α → Value} {h1 : ∀ x, (enc x).oneCell' = true} {T base : Nat} {ok S : Nat → Prop} {v : Value} {xs : List α} {w w1 : World} (h : (Kd.scalar enc h1).R T w base ok v xs) (hk : Kept w w1 S) (hd : ∀ k, v.ownBlock = some k → ¬ S k) : (Kd.scalar enc h1).R T w1 base ok v xs := by
 obtain ⟨h0, inner, ho, hr⟩ := h
 exact ⟨h0, inner, own_move ho (fun k hk1 => hk.2 k (own_lt ho k hk1) (hd k hk1)), hr⟩
theorem mrow_of {α : Type} {enc : α → Value} {h1 : ∀ x, (enc x).oneCell' = true} {T base : Nat} {ok P : Nat → Prop} {v : Value} {xs : List α} {W : World} (d : α) (h : (Kd.scalar enc h1).R T W base ok v xs) (hok : ∀ k, ok k → P k) : MRow enc T base P xs.length v W := by
 obtain ⟨A, c, rfl⟩ := Kd.R_slice h
 refine ⟨A, c, rfl, by have := (Kd.R_reads' h).2.2.2.1; omega, fun hn => ?_⟩
 obtain ⟨g, cap, hv, hb, _, hc⟩ := Kd.R_form h hn
 have hA := slice_inj hv
 subst hA
 refine ⟨g, rfl, hb, hok g (h.1 g (by simp [Value.ownBlock])), hc, fun j hj => ⟨rdOf d xs (j : Int), ?_⟩⟩
 have := (Kd.R_celln d h (j : Int) (by omega) (by omega)).1
 rwa [Int.toNat_natCast] at this
def laws_markStringS.n : Nat → Nat → Int → Option Int
 | _, 0, a => some a
 | k, m + 1, a => (laws_markText.f k a).bind fun _ => laws_markStringS.n k m (wrap64 (a + 1))
theorem laws_markStringS.n_mono (k : Nat) : ∀ m a, LeO (laws_markStringS.n k m a) (laws_markStringS.n (k + 1) m a)
 | 0, a => LeO.refl _
 | m + 1, a => LeO.bind (laws_markText.mono _ _) (fun _ => laws_markStringS.n_mono k m _)
set_option maxHeartbeats 4000000 in
set_option maxRecDepth 100000 in
theorem laws_markStringS.walk (k n : Nat) (v : Value) (a1 r1 : Int) (base : Nat) (P : Nat → Prop) (w : World) (Inv : World → Prop) (hI : Inv w) (hrow : ∀ W, Inv W → MRow Value.string 9 base P n v W)
  (hset : ∀ W g c j x, Inv W → v = .slice (some ⟨g, 0, none⟩) n c → j < n → Inv (W.setCell ⟨g, j, none⟩ (Value.string x))) (hbel : ∀ W W', Inv W → Below W.heap.size W W' → Inv W') (h : laws_markStringS.n k n a1 = some r1) :
  Calls Try.prog 25 #[v, .int .i64 a1] w fun e w' => e = .returned (.int .i64 r1) ∧ Inv w' := by
 obtain ⟨A, c, rfl, hn, _⟩ := hrow w hI
 have HI := Aside0.mk hI
 have HROW := Aside0.mk hrow
 have HSET := Aside0.mk hset
 have HBEL := Aside0.mk hbel
 have H := Aside0.mk h
 clear hI hrow hset hbel h
 go_enter Try.func25, Try.ntmps25
 go_wp2
 go_loopg [1, 5] n (fun gg v1 v5 wr => ∃ (x1 x5 : Int) (m : Nat), v1 = .int .i64 x1 ∧ v5 = .int .i64 x5 ∧ Aside0 (0 ≤ x5 ∧ x5.toNat + m = n) ∧ m ≤ gg ∧ Aside0 (laws_markStringS.n k m x1 = some r1) ∧ Aside0 (Inv wr))
 case atStart => exact ⟨a1, 0, n, rfl, rfl, ⟨by decide, by simp⟩, Nat.le_refl _, H, HI⟩
 case round =>
  clear H HI
  obtain ⟨x1, x5, m, rfl, rfl, HM, hg, H, HI⟩ := hrel
  cases m with
  | zero =>
   have c3b0 : decide (x5 < (n : Int)) = false := decide_eq_false (by have := HM.out; omega)
   have hr := H.out
   unfold laws_markStringS.n at hr
   obtain rfl := Option.some.inj hr
   clear H hr hg
   go_wp2
   go_ret
   exact ⟨rfl, HI.out⟩
  | succ m =>
   have c3b0 : decide (x5 < (n : Int)) = true := decide_eq_true (by have := HM.out; omega)
   have p6 : (0 ≤ x5) = True := eq_true HM.out.1
   have q6 : (x5 < (n : Int)) = True := eq_true (by have := HM.out; omega)
   have HLT := Aside0.mk (show x5.toNat < n by have := HM.out; omega)
   have hr := H.out
   unfold laws_markStringS.n at hr
   clear H
   obtain ⟨t0, A00, hr⟩ := Option.bind_eq_some_iff.mp hr
   have A0 := Aside0.mk A00
   have H := Aside0.mk hr
   clear A00 hr
   obtain ⟨A_, c_, e_, _, hR⟩ := HROW.out _ HI.out
   obtain ⟨g, hA, _⟩ := hR (by have := HLT.out; omega)
   have eA : A = some ⟨g, 0, none⟩ := (slice_inj e_).trans hA
   subst eA
   clear e_ hR hA
   go_wp2_with (first | ((with_reducible refine gate_callee (f := 69) rfl ?_); refine goesL_ (some 15) rfl rfl Try.func69 (by kernel_rfl) rfl #[.int .i64 x1] rfl (by (try simp only [List.map_toArray, List.map_cons, List.map_nil]); first | done | rfl) ?_; (with_reducible refine (laws_markText.calls k x1 t0 _ A0.out).mono ?_); rintro e w1 ⟨rfl, hb⟩; refine ⟨_, rfl, ?_⟩; replace HI := Aside0.mk (HBEL.out _ _ HI.out hb); clear hb; obtain ⟨A2_, c2_, e2_, _, hR2_⟩ := HROW.out _ HI.out; obtain ⟨g2_, hA2_, _, _, hB2_, hC2_⟩ := hR2_ (by have := HLT.out; omega); have e6_ := addr_inj ((slice_inj e2_).trans hA2_); subst e6_; obtain ⟨s_, hx_⟩ := hC2_ x5.toNat HLT.out; obtain ⟨cl_, hcl_⟩ := hB2_; have hf_ := blk_frozen hcl_ x5.toNat; clear e2_ hA2_ hR2_ hC2_ hcl_) | ((with_reducible refine gate_store (t := 9) (p := 16) rfl ?_); refine store_event (t := 9) (p := 16) (v := ?vo_w2) (w1 := (w1.setCell ⟨g, (x5 : Int).toNat, none⟩ (.string t0))) ?hg ?ho ?hn ?hr ?_; (case ho => rfl); (case hg => rfl); (case hn => rfl); (case hr => first | (go_simp; done) | (go_simp; rfl)); intro w2 hw; replace HI := Aside0.mk (show Inv w2 by rw [hw]; exact HSET.out _ g c _ _ HI.out rfl HLT.out); clear hw))
   go_roundg m
   case measure => omega
   case rel => exact ⟨(wrap64 (x1 + 1)), (wrap64 (x5 + 1)), m, (by first | rfl | (simp; done) | (simp [*]; done)), (by first | rfl | (simp; done) | (simp [*]; done)), ⟨by have := HM.out; rw [show wrap64 (x5 + 1) = x5 + 1 from by unfold wrap64; omega]; omega⟩, by omega, H, HI⟩
/-- A row of impl.Result, whatever stands in it; its block is in P. -/
def MRes (base : Nat) (P : Nat → Prop) (n : Nat) (v : Value) (W : World) : Prop :=
 ∃ A c, v = .slice A n c ∧ n ≤ 9223372036854775807 ∧ (0 < n → ∃ g, A = some ⟨g, 0, none⟩ ∧ base ≤ g ∧ P g ∧ (∃ cells, W.heap[g]? = some (.cells cells 87 (0, 0))) ∧ ∀ j, j < n → (∃ x, W.cell? ⟨g, j * 2, none⟩ = some (Value.string x)) ∧ ∃ x, W.cell? ⟨g, j * 2 + 1, none⟩ = some (Value.int .i64 x))
theorem MRes.below {base : Nat} {P : Nat → Prop} {n : Nat} {v : Value} {W W' : World} (h : MRes base P n v W) (hb : Below W.heap.size W W') : MRes base P n v W' := by
 obtain ⟨A, c, hv, hl, h⟩ := h
 refine ⟨A, c, hv, hl, fun hn => ?_⟩
 obtain ⟨g, hA, h1, h2, ⟨cells, h3⟩, h4⟩ := h hn
 refine ⟨g, hA, h1, h2, ⟨cells, (hb.block g (blk_lt h3)).trans h3⟩, fun j hj => ?_⟩
 obtain ⟨⟨x, hx⟩, ⟨y, hy⟩⟩ := h4 j hj
 exact ⟨⟨x, (hb.cell (World.block_lt_of_cell? _ _ hx)).trans hx⟩, ⟨y, (hb.cell (World.block_lt_of_cell? _ _ hy)).trans hy⟩⟩
theorem MRes.set_s {base : Nat} {P : Nat → Prop} {n : Nat} {v : Value} {W : World} (h : MRes base P n v W) (b i : Nat) (x : ByteArray) : MRes base P n v (W.setCell ⟨b, i * 2, none⟩ (.string x)) := by
 obtain ⟨A, c, hv, hl, h⟩ := h
 refine ⟨A, c, hv, hl, fun hn => ?_⟩
 obtain ⟨g, hA, h1, h2, h3, h4⟩ := h hn
 refine ⟨g, hA, h1, h2, blkT_set h3 b _ _, fun j hj => ⟨cell_set_enc (h4 j hj).1 _ x, ?_⟩⟩
 obtain ⟨y, hy⟩ := (h4 j hj).2
 exact ⟨y, cell_set_ne hy (addr_ne (fun _ => by omega))⟩
theorem MRes.set_i {base : Nat} {P : Nat → Prop} {n : Nat} {v : Value} {W : World} (h : MRes base P n v W) (b i : Nat) (x : Int) : MRes base P n v (W.setCell ⟨b, i * 2 + 1, none⟩ (.int .i64 x)) := by
 obtain ⟨A, c, hv, hl, h⟩ := h
 refine ⟨A, c, hv, hl, fun hn => ?_⟩
 obtain ⟨g, hA, h1, h2, h3, h4⟩ := h hn
 refine ⟨g, hA, h1, h2, blkT_set h3 b _ _, fun j hj => ⟨?_, cell_set_enc (enc := Value.int .i64) (h4 j hj).2 _ x⟩⟩
 obtain ⟨y, hy⟩ := (h4 j hj).1
 exact ⟨y, cell_set_ne hy (addr_ne (fun _ => by omega))⟩
theorem MRes.set_other {base : Nat} {P : Nat → Prop} {n : Nat} {v : Value} {W : World} (h : MRes base P n v W) {b T' : Nat} (hb : ∃ cells, W.heap[b]? = some (.cells cells T' (0, 0))) (ht : T' ≠ 87) (i : Nat) (u : Value) : MRes base P n v (W.setCell ⟨b, i, none⟩ u) := by
 obtain ⟨A, c, hv, hl, h⟩ := h
 refine ⟨A, c, hv, hl, fun hn => ?_⟩
 obtain ⟨g, hA, h1, h2, h3, h4⟩ := h hn
 obtain ⟨_, hb⟩ := hb
 have h3c := h3
 obtain ⟨_, h3'⟩ := h3c
 have hne : b ≠ g := blk_ne hb h3' ht
 refine ⟨g, hA, h1, h2, blkT_set h3 b i _, fun j hj => ?_⟩
 obtain ⟨⟨x, hx⟩, ⟨y, hy⟩⟩ := h4 j hj
 exact ⟨⟨x, cell_set_ne hx (addr_ne (fun e => absurd e hne))⟩, ⟨y, cell_set_ne hy (addr_ne (fun e => absurd e hne))⟩⟩
theorem mres_of {base : Nat} {ok P : Nat → Prop} {v : Value} {xs : List S87} {W : World} (h : Kd.R k87 87 W base ok v xs) (hok : ∀ k, ok k → P k) : MRes base P xs.length v W := by
 obtain ⟨A, c, rfl⟩ := Kd.R_slice h
 refine ⟨A, c, rfl, by have := (Kd.R_reads' h).2.2.2.1; omega, fun hn => ?_⟩
 obtain ⟨g, cap, hv, hb, _, hc⟩ := Kd.R_form h hn
 have hA := slice_inj hv
 subst hA
 refine ⟨g, rfl, hb, hok g (h.1 g (by simp [Value.ownBlock])), hc, fun j hj => ?_⟩
 obtain ⟨ce, hcl, hM, hcc, _⟩ := Kd.R_elem h z87 (j : Int) (by omega) (by omega)
 rw [Int.toNat_natCast] at hcc
 obtain rfl := k87_openM hM
 exact ⟨⟨_, hcc 0 _ rfl⟩, ⟨_, hcc 1 _ rfl⟩⟩
def laws_markResultSW.n : Nat → Nat → Int → Option Int
 | _, 0, a => some a
 | k, m + 1, a => (laws_markText.f k a).bind fun _ => laws_markResultSW.n k m (wrap64 (wrap64 (a + 1) + 1))
theorem laws_markResultSW.n_mono (k : Nat) : ∀ m a, LeO (laws_markResultSW.n k m a) (laws_markResultSW.n (k + 1) m a)
 | 0, a => LeO.refl _
 | m + 1, a => LeO.bind (laws_markText.mono _ _) (fun _ => laws_markResultSW.n_mono k m _)
set_option maxHeartbeats 4000000 in
set_option maxRecDepth 100000 in
theorem laws_markResultSW.walk (k n : Nat) (v : Value) (a1 r1 : Int) (base : Nat) (P : Nat → Prop) (w : World) (Inv : World → Prop) (hI : Inv w) (hrow : ∀ W, Inv W → MRes base P n v W)
  (hsets : ∀ W g c j x, Inv W → v = .slice (some ⟨g, 0, none⟩) n c → j < n → Inv (W.setCell ⟨g, j * 2, none⟩ (.string x))) (hseti : ∀ W g c j x, Inv W → v = .slice (some ⟨g, 0, none⟩) n c → j < n → Inv (W.setCell ⟨g, j * 2 + 1, none⟩ (.int .i64 x))) (hbel : ∀ W W', Inv W → Below W.heap.size W W' → Inv W') (h : laws_markResultSW.n k n a1 = some r1) :
  Calls Try.prog 68 #[v, .int .i64 a1] w fun e w' => e = .returned (.int .i64 r1) ∧ Inv w' := by
 obtain ⟨A, c, rfl, hn, _⟩ := hrow w hI
 have HI := Aside0.mk hI
 have HROW := Aside0.mk hrow
 have HSETS := Aside0.mk hsets
 have HSETI := Aside0.mk hseti
 have HBEL := Aside0.mk hbel
 have H := Aside0.mk h
 clear hI hrow hsets hseti hbel h
 go_enter Try.func68, Try.ntmps68
 go_wp2
 go_loopg [1, 5] n (fun gg v1 v5 wr => ∃ (x1 x5 : Int) (m : Nat), v1 = .int .i64 x1 ∧ v5 = .int .i64 x5 ∧ Aside0 (0 ≤ x5 ∧ x5.toNat + m = n) ∧ m ≤ gg ∧ Aside0 (laws_markResultSW.n k m x1 = some r1) ∧ Aside0 (Inv wr))
 case atStart => exact ⟨a1, 0, n, rfl, rfl, ⟨by decide, by simp⟩, Nat.le_refl _, H, HI⟩
 case round =>
  clear H HI
  obtain ⟨x1, x5, m, rfl, rfl, HM, hg, H, HI⟩ := hrel
  cases m with
  | zero =>
   have c3b0 : decide (x5 < (n : Int)) = false := decide_eq_false (by have := HM.out; omega)
   have hr := H.out
   unfold laws_markResultSW.n at hr
   obtain rfl := Option.some.inj hr
   clear H hr hg
   go_wp2
   go_ret
   exact ⟨rfl, HI.out⟩
  | succ m =>
   have c3b0 : decide (x5 < (n : Int)) = true := decide_eq_true (by have := HM.out; omega)
   have p6 : (0 ≤ x5) = True := eq_true HM.out.1
   have q6 : (x5 < (n : Int)) = True := eq_true (by have := HM.out; omega)
   have HLT := Aside0.mk (show x5.toNat < n by have := HM.out; omega)
   have hr := H.out
   unfold laws_markResultSW.n at hr
   clear H
   obtain ⟨t0, A00, hr⟩ := Option.bind_eq_some_iff.mp hr
   have A0 := Aside0.mk A00
   have H := Aside0.mk hr
   clear A00 hr
   obtain ⟨A_, c_, e_, _, hR⟩ := HROW.out _ HI.out
   obtain ⟨g, hA, _⟩ := hR (by have := HLT.out; omega)
   have eA : A = some ⟨g, 0, none⟩ := (slice_inj e_).trans hA
   subst eA
   clear e_ hR hA
   go_wp2_with (first | ((with_reducible refine gate_callee (f := 69) rfl ?_); refine goesL_ (some 15) rfl rfl Try.func69 (by kernel_rfl) rfl #[.int .i64 x1] rfl (by (try simp only [List.map_toArray, List.map_cons, List.map_nil]); first | done | rfl) ?_; (with_reducible refine (laws_markText.calls k x1 t0 _ A0.out).mono ?_); rintro e w1 ⟨rfl, hb⟩; refine ⟨_, rfl, ?_⟩; replace HI := Aside0.mk (HBEL.out _ _ HI.out hb); clear hb; obtain ⟨A2_, c2_, e2_, _, hR2_⟩ := HROW.out _ HI.out; obtain ⟨g2_, hA2_, _, _, hB2_, hC2_⟩ := hR2_ (by have := HLT.out; omega); have e6_ := addr_inj ((slice_inj e2_).trans hA2_); subst e6_; obtain ⟨⟨s_, hx_⟩, _⟩ := hC2_ x5.toNat HLT.out; obtain ⟨cl_, hcl_⟩ := hB2_; have hf_ := blk_frozen hcl_ (x5.toNat * 2); clear e2_ hA2_ hR2_ hC2_ hcl_) | ((with_reducible refine gate_store (t := 9) (p := 17) rfl ?_); refine store_event (t := 9) (p := 17) (v := ?vo_w2) (w1 := (w1.setCell ⟨g, (x5 : Int).toNat * 2, none⟩ (.string t0))) ?hg ?ho ?hn ?hr ?_; (case ho => rfl); (case hg => rfl); (case hn => rfl); (case hr => first | (go_simp; done) | (go_simp; rfl)); intro w2 hw; replace HI := Aside0.mk (show Inv w2 by rw [hw]; exact HSETS.out _ g c _ _ HI.out rfl HLT.out); clear hw; obtain ⟨A3_, c3_, e3_, _, hR3_⟩ := HROW.out _ HI.out; obtain ⟨g3_, hA3_, _, _, hB3_, hC3_⟩ := hR3_ (by have := HLT.out; omega); have e7_ := addr_inj ((slice_inj e3_).trans hA3_); subst e7_; obtain ⟨_, ⟨i_, hy_⟩⟩ := hC3_ x5.toNat HLT.out; obtain ⟨cm_, hcm_⟩ := hB3_; have hfi_ := blk_frozen hcm_ (x5.toNat * 2 + 1); clear e3_ hA3_ hR3_ hC3_ hcm_) | ((with_reducible refine gate_store (t := 3) (p := 24) rfl ?_); refine store_event (t := 3) (p := 24) (v := ?vo_w3) (w1 := (w2.setCell ⟨g, (x5 : Int).toNat * 2 + 1, none⟩ (.int .i64 (wrap64 (x1 + 1))))) ?hg ?ho ?hn ?hr ?_; (case ho => rfl); (case hg => rfl); (case hn => rfl); (case hr => first | (go_simp; done) | (go_simp; rfl)); intro w3 hw; replace HI := Aside0.mk (show Inv w3 by rw [hw]; exact HSETI.out _ g c _ _ HI.out rfl HLT.out); clear hw))
   go_roundg m
   case measure => omega
   case rel => exact ⟨(wrap64 (wrap64 (x1 + 1) + 1)), (wrap64 (x5 + 1)), m, (by first | rfl | (simp; done) | (simp [*]; done)), (by first | rfl | (simp; done) | (simp [*]; done)), ⟨by have := HM.out; rw [show wrap64 (x5 + 1) = x5 + 1 from by unfold wrap64; omega]; omega⟩, by omega, H, HI⟩
structure MReport (base g n : Nat) (P : Nat → Prop) (H : Nat → Nat → Value) (L : Nat → Nat → Nat) (w0 wS W : World) : Prop where
 blk : 0 < n → base ≤ g ∧ P g ∧ ∃ cells, W.heap[g]? = some (.cells cells 47 (0, 0))
 c0 : ∀ i, i < n → W.cell? ⟨g, i * 2, none⟩ = some (H i 0)
 r0 : ∀ i, i < n → MRes base P (L i 0) (H i 0) W
 c1 : ∀ i, i < n → W.cell? ⟨g, i * 2 + 1, none⟩ = some (H i 1)
 r1 : ∀ i, i < n → MRow Value.string 9 base P (L i 1) (H i 1) W
 bel : Below w0.heap.size w0 W
 kept : Kept wS W P
 low : w0.heap.size ≤ base
theorem MReport.below {base g n : Nat} {P : Nat → Prop} {H : Nat → Nat → Value} {L : Nat → Nat → Nat} {w0 wS W : World} (h : MReport base g n P H L w0 wS W) {W' : World} (hb : Below W.heap.size W W') : MReport base g n P H L w0 wS W' where
 blk hn := by
  obtain ⟨h1, h2, cells, h3⟩ := h.blk hn
  exact ⟨h1, h2, cells, (hb.block g (blk_lt h3)).trans h3⟩
 c0 i hi := (hb.cell (World.block_lt_of_cell? _ _ (h.c0 i hi))).trans (h.c0 i hi)
 r0 i hi := (h.r0 i hi).below hb
 c1 i hi := (hb.cell (World.block_lt_of_cell? _ _ (h.c1 i hi))).trans (h.c1 i hi)
 r1 i hi := (h.r1 i hi).below hb
 bel := below_step h.bel hb
 kept := h.kept.below hb
 low := h.low
theorem MReport.put0s {base g n : Nat} {P : Nat → Prop} {H : Nat → Nat → Value} {L : Nat → Nat → Nat} {w0 wS W : World} (h : MReport base g n P H L w0 wS W) {m b c j : Nat} (hm : m < n) (hv : H m 0 = .slice (some ⟨b, 0, none⟩) (L m 0) c) (hj : j < L m 0) (y : ByteArray) : MReport base g n P H L w0 wS (W.setCell ⟨b, j * 2, none⟩ (Value.string y)) := by
 obtain ⟨A, c', e1, _, hR⟩ := h.r0 m hm
 obtain ⟨b', hA, hb1, hb2, hb3, _⟩ := hR (by omega)
 have e4 := addr_inj ((slice_inj (hv.symm.trans e1)).trans hA)
 subst e4
 obtain ⟨_, hg⟩ := (h.blk (by omega)).2.2
 obtain ⟨_, hb4⟩ := hb3
 have hne : b ≠ g := blk_ne hb4 hg (by decide)
 exact {
  blk := fun hn => ⟨(h.blk hn).1, (h.blk hn).2.1, blkT_set (h.blk hn).2.2 _ _ _⟩
  c0 := fun i hi => cell_set_ne (h.c0 i hi) (addr_ne (fun e => absurd e hne))
  r0 := fun i hi => (h.r0 i hi).set_s _ _ y
  c1 := fun i hi => cell_set_ne (h.c1 i hi) (addr_ne (fun e => absurd e hne))
  r1 := fun i hi => (h.r1 i hi).set_other ⟨_, hb4⟩ (by decide) _ _
  bel := below_set h.bel (Nat.le_trans h.low hb1)
  kept := h.kept.setCell (.inl hb2) _
  low := h.low }
theorem MReport.put0i {base g n : Nat} {P : Nat → Prop} {H : Nat → Nat → Value} {L : Nat → Nat → Nat} {w0 wS W : World} (h : MReport base g n P H L w0 wS W) {m b c j : Nat} (hm : m < n) (hv : H m 0 = .slice (some ⟨b, 0, none⟩) (L m 0) c) (hj : j < L m 0) (y : Int) : MReport base g n P H L w0 wS (W.setCell ⟨b, j * 2 + 1, none⟩ (Value.int .i64 y)) := by
 obtain ⟨A, c', e1, _, hR⟩ := h.r0 m hm
 obtain ⟨b', hA, hb1, hb2, hb3, _⟩ := hR (by omega)
 have e4 := addr_inj ((slice_inj (hv.symm.trans e1)).trans hA)
 subst e4
 obtain ⟨_, hg⟩ := (h.blk (by omega)).2.2
 obtain ⟨_, hb4⟩ := hb3
 have hne : b ≠ g := blk_ne hb4 hg (by decide)
 exact {
  blk := fun hn => ⟨(h.blk hn).1, (h.blk hn).2.1, blkT_set (h.blk hn).2.2 _ _ _⟩
  c0 := fun i hi => cell_set_ne (h.c0 i hi) (addr_ne (fun e => absurd e hne))
  r0 := fun i hi => (h.r0 i hi).set_i _ _ y
  c1 := fun i hi => cell_set_ne (h.c1 i hi) (addr_ne (fun e => absurd e hne))
  r1 := fun i hi => (h.r1 i hi).set_other ⟨_, hb4⟩ (by decide) _ _
  bel := below_set h.bel (Nat.le_trans h.low hb1)
  kept := h.kept.setCell (.inl hb2) _
  low := h.low }
theorem MReport.put1 {base g n : Nat} {P : Nat → Prop} {H : Nat → Nat → Value} {L : Nat → Nat → Nat} {w0 wS W : World} (h : MReport base g n P H L w0 wS W) {m b c j : Nat} (hm : m < n) (hv : H m 1 = .slice (some ⟨b, 0, none⟩) (L m 1) c) (hj : j < L m 1) (y : ByteArray) : MReport base g n P H L w0 wS (W.setCell ⟨b, j, none⟩ (Value.string y)) := by
 obtain ⟨A, c', e1, _, hR⟩ := h.r1 m hm
 obtain ⟨b', hA, hb1, hb2, hb3, _⟩ := hR (by omega)
 have e4 := addr_inj ((slice_inj (hv.symm.trans e1)).trans hA)
 subst e4
 obtain ⟨_, hg⟩ := (h.blk (by omega)).2.2
 obtain ⟨_, hb4⟩ := hb3
 have hne : b ≠ g := blk_ne hb4 hg (by decide)
 exact {
  blk := fun hn => ⟨(h.blk hn).1, (h.blk hn).2.1, blkT_set (h.blk hn).2.2 _ _ _⟩
  c0 := fun i hi => cell_set_ne (h.c0 i hi) (addr_ne (fun e => absurd e hne))
  r0 := fun i hi => (h.r0 i hi).set_other ⟨_, hb4⟩ (by decide) _ _
  c1 := fun i hi => cell_set_ne (h.c1 i hi) (addr_ne (fun e => absurd e hne))
  r1 := fun i hi => (h.r1 i hi).set_enc _ _ y
  bel := below_set h.bel (Nat.le_trans h.low hb1)
  kept := h.kept.setCell (.inl hb2) _
  low := h.low }
def laws_markReportS.n : Nat → List S47 → Int → Option Int
 | _, [], a => some a
 | k, x :: t, a => (laws_markResultSW.n k x.f0.length (a)).bind fun b0 => (laws_markStringS.n k x.f1.length (b0)).bind fun b1 => laws_markReportS.n k t (b1)
theorem laws_markReportS.n_mono (k : Nat) : ∀ t a, LeO (laws_markReportS.n k t a) (laws_markReportS.n (k + 1) t a)
 | [], a => LeO.refl _
 | x :: t, a => LeO.bind (laws_markResultSW.n_mono k _ _) (fun _ => LeO.bind (laws_markStringS.n_mono k _ _) (fun _ => laws_markReportS.n_mono k t _))
def laws_markReportS.f (k : Nat) (l0 : List (S47)) (a1 : Int) : Option (Int) := laws_markReportS.n k l0 a1
theorem laws_markReportS.mono : ∀ a0 a1 k, LeO (laws_markReportS.f k a0 a1) (laws_markReportS.f (k + 1) a0 a1) := fun a0 a1 k => laws_markReportS.n_mono k a0 a1
def MReport.h (w : World) (g : Nat) (i j : Nat) : Value := (w.cell? ⟨g, i * 2 + j, none⟩).getD (.slice none 0 0)
def MReport.l (l0 : List (S47)) (i j : Nat) : Nat := match j with
 | 0 => ((l0.getD i z47).f0).length
 | 1 => ((l0.getD i z47).f1).length
 | _ => 0
theorem MReport.start {base : Nat} {P : Nat → Prop} {A : Option Addr} {c : Nat} {l0 : List (S47)} {w0 w : World} (hB : Below w0.heap.size w0 w) (hlow : w0.heap.size ≤ base) (ho : Kd.R k47 47 w base P (.slice A l0.length c) l0) :
  ∃ g, (0 < l0.length → A = some ⟨g, 0, none⟩) ∧ MReport base g l0.length P (MReport.h w g) (MReport.l l0) w0 w w := by
 by_cases hn : 0 < l0.length
 ·obtain ⟨g, cap, hv, hb, _, hc⟩ := Kd.R_form ho hn
  have hA := slice_inj hv
  subst hA
  have el : ∀ i, i < l0.length → ∃ (ce : List Value) (v0 : Value) (v1 : Value), ce = [v0, v1] ∧ MRes base P (l0.getD i z47).f0.length v0 w ∧ MRow Value.string 9 base P (l0.getD i z47).f1.length v1 w ∧ (∀ j u, ce[j]? = some u → w.cell? ⟨g, i * 2 + j, none⟩ = some u) := by
   intro i hi
   obtain ⟨ce, hcl, hM, hcc, _⟩ := Kd.R_elem ho z47 (i : Int) (by omega) (by omega)
   rw [Int.toNat_natCast] at hcc
   obtain ⟨v0, v1, rfl, g00, g10⟩ := k47_openM hM
   have g0 := mres_of (P := P) g00 (fun k hk => hk.1)
   have g1 := mrow_of (P := P) ByteArray.empty g10 (fun k hk => hk.1)
   exact ⟨_, v0, v1, rfl, g0, g1, hcc⟩
  refine ⟨g, fun _ => rfl, ?_⟩
  refine { blk := fun _ => ⟨hb, ho.1 g (by simp [Value.ownBlock]), hc⟩, c0 := ?c0, c1 := ?c1, r0 := ?r0, r1 := ?r1, bel := hB, kept := Kept.refl _ _, low := hlow }
  case c0 =>
   intro i hi
   obtain ⟨ce, v0, v1, rfl, g0, g1, hcc⟩ := el i hi
   exact by
    have := hcc 0 _ rfl
    rw [show MReport.h w g i 0 = v0 from by unfold MReport.h; rw [this]; rfl]
    exact this
  case c1 =>
   intro i hi
   obtain ⟨ce, v0, v1, rfl, g0, g1, hcc⟩ := el i hi
   exact by
    have := hcc 1 _ rfl
    rw [show MReport.h w g i 1 = v1 from by unfold MReport.h; rw [this]; rfl]
    exact this
  case r0 =>
   intro i hi
   obtain ⟨ce, v0, v1, rfl, g0, g1, hcc⟩ := el i hi
   have := hcc 0 _ rfl
   rw [show MReport.h w g i 0 = v0 from by unfold MReport.h; rw [this]; rfl]
   exact g0
  case r1 =>
   intro i hi
   obtain ⟨ce, v0, v1, rfl, g0, g1, hcc⟩ := el i hi
   have := hcc 1 _ rfl
   rw [show MReport.h w g i 1 = v1 from by unfold MReport.h; rw [this]; rfl]
   exact g1
 ·exact ⟨0, fun h => absurd h hn, { blk := fun h => absurd h hn, c0 := fun i hi => absurd hi (by omega), c1 := fun i hi => absurd hi (by omega), r0 := fun i hi => absurd hi (by omega), r1 := fun i hi => absurd hi (by omega), bel := hB, kept := Kept.refl _ _, low := hlow }⟩
set_option maxHeartbeats 8000000 in
set_option maxRecDepth 100000 in
theorem laws_markReportS.walk (k : Nat) (A : Option Addr) (c : Nat) (l0 : List (S47)) (a1 r1 : Int) (base g : Nat) (P : Nat → Prop) (w0 w : World) (hA : 0 < l0.length → A = some ⟨g, 0, none⟩) (hI : MReport base g l0.length P (MReport.h w g) (MReport.l l0) w0 w w) (hn : l0.length ≤ 9223372036854775807) (h : laws_markReportS.n k l0 a1 = some r1) :
  Calls Try.prog 24 #[.slice A l0.length c, .int .i64 a1] w fun e w' => e = .returned (.int .i64 r1) ∧ MReport base g l0.length P (MReport.h w g) (MReport.l l0) w0 w w' := by
 have MV := Aside0.mk hI
 have HA := Aside0.mk hA
 have H := Aside0.mk h
 clear hI hA h
 go_enter Try.func24, Try.ntmps24
 go_wp2
 go_loopg [1, 5] l0.length (fun gg v1 v5 wr => ∃ (x1 x5 : Int) (m : Nat), v1 = .int .i64 x1 ∧ v5 = .int .i64 x5 ∧ Aside0 (0 ≤ x5 ∧ x5.toNat + m = l0.length) ∧ m ≤ gg ∧ Aside0 (laws_markReportS.n k (l0.drop x5.toNat) x1 = some r1) ∧ Aside0 (MReport base g l0.length P (MReport.h w g) (MReport.l l0) w0 w wr))
 case atStart => exact ⟨a1, 0, l0.length, rfl, rfl, ⟨by decide, by simp⟩, Nat.le_refl _, H, MV⟩
 case round =>
  clear H MV
  obtain ⟨x1, x5, m, rfl, rfl, HM, hg, H, MV⟩ := hrel
  cases m with
  | zero =>
   have c3b0 : decide (x5 < (l0.length : Int)) = false := decide_eq_false (by have := HM.out; omega)
   have hr := H.out
   rw [List.drop_of_length_le (by have := HM.out; omega)] at hr
   unfold laws_markReportS.n at hr
   obtain rfl := Option.some.inj hr
   clear H hr hg
   go_wp2
   go_ret
   exact ⟨rfl, MV.out⟩
  | succ m =>
   have c3b0 : decide (x5 < (l0.length : Int)) = true := decide_eq_true (by have := HM.out; omega)
   have p6 : (0 ≤ x5) = True := eq_true HM.out.1
   have q6 : (x5 < (l0.length : Int)) = True := eq_true (by have := HM.out; omega)
   have HLT := Aside0.mk (show x5.toNat < l0.length by have := HM.out; omega)
   have hr := H.out
   obtain ⟨x, hx⟩ : ∃ x, x = l0[x5.toNat]'HLT.out := ⟨_, rfl⟩
   have hgx : l0.getD x5.toNat z47 = x := by rw [hx, List.getD_eq_getElem?_getD, List.getElem?_eq_getElem HLT.out]; rfl
   rw [List.drop_eq_getElem_cons HLT.out, ← hx] at hr
   clear hx H
   unfold laws_markReportS.n at hr
   obtain ⟨b0, A00, hr⟩ := Option.bind_eq_some_iff.mp hr
   have A0 := Aside0.mk (show laws_markResultSW.n k (MReport.l l0 (x5 : Int).toNat 0) (x1) = some b0 by rw [show MReport.l l0 (x5 : Int).toNat 0 = x.f0.length from by show ((l0.getD _ _).f0).length = _; rw [hgx]]; exact A00)
   clear A00
   obtain ⟨b1, A10, hr⟩ := Option.bind_eq_some_iff.mp hr
   have A1 := Aside0.mk (show laws_markStringS.n k (MReport.l l0 (x5 : Int).toNat 1) (b0) = some b1 by rw [show MReport.l l0 (x5 : Int).toNat 1 = x.f1.length from by show ((l0.getD _ _).f1).length = _; rw [hgx]]; exact A10)
   clear A10
   have H := Aside0.mk hr
   clear hr hgx
   have eA := HA.out (by have := HLT.out; omega)
   subst eA
   have hx0_ := MV.out.c0 _ HLT.out
   go_wp2_with (first | ((with_reducible refine gate_callee (f := 68) rfl ?_); refine goesL_ (some 18) rfl rfl Try.func68 (by kernel_rfl) rfl #[MReport.h w g (x5 : Int).toNat 0, .int .i64 (x1)] rfl (by (try simp only [List.map_toArray, List.map_cons, List.map_nil]); first | done | rfl) ?_; refine (laws_markResultSW.walk k (MReport.l l0 (x5 : Int).toNat 0) (MReport.h w g (x5 : Int).toNat 0) (x1) b0 base P _ (MReport base g l0.length P (MReport.h w g) (MReport.l l0) w0 w) MV.out (fun W h => h.r0 _ HLT.out) (fun W b c j y h e hj => h.put0s HLT.out e hj y) (fun W b c j y h e hj => h.put0i HLT.out e hj y) (fun W W' h hb => h.below hb) A0.out).mono ?_; rintro e w1 ⟨rfl, hI⟩; refine ⟨_, rfl, ?_⟩; have n0_ := Aside0.mk hI; clear MV hI; have MV := n0_; clear n0_; have hx1_ := MV.out.c1 _ HLT.out) | ((with_reducible refine gate_callee (f := 25) rfl ?_); refine goesL_ (some 25) rfl rfl Try.func25 (by kernel_rfl) rfl #[MReport.h w g (x5 : Int).toNat 1, .int .i64 (b0)] rfl (by (try simp only [List.map_toArray, List.map_cons, List.map_nil]); first | done | rfl) ?_; refine (laws_markStringS.walk k (MReport.l l0 (x5 : Int).toNat 1) (MReport.h w g (x5 : Int).toNat 1) (b0) b1 base P _ (MReport base g l0.length P (MReport.h w g) (MReport.l l0) w0 w) MV.out (fun W h => h.r1 _ HLT.out) (fun W b c j y h e hj => h.put1 HLT.out e hj y) (fun W W' h hb => h.below hb) A1.out).mono ?_; rintro e w2 ⟨rfl, hI⟩; refine ⟨_, rfl, ?_⟩; have n0_ := Aside0.mk hI; clear MV hI; have MV := n0_; clear n0_))
   go_roundg m
   case measure => omega
   case rel => exact ⟨(b1), (wrap64 (x5 + 1)), m, (by first | rfl | (simp; done) | (simp [*]; done)), (by first | rfl | (simp; done) | (simp [*]; done)), ⟨by have := HM.out; rw [show wrap64 (x5 + 1) = x5 + 1 from by unfold wrap64; omega]; omega⟩, by omega, ⟨by have := HM.out; rw [show (wrap64 (x5 + 1)).toNat = x5.toNat + 1 from by unfold wrap64; omega]; exact H.out⟩, MV⟩
/-- .. as the laws call it: of what stood before only blocks in P are turned. -/
theorem laws_markReportS.calls (k : Nat) (P : Nat → Prop) (A : Option Addr) (c : Nat) (l0 : List (S47)) (a1 r1 : Int) (base : Nat) (w0 w : World) (hB : Below w0.heap.size w0 w) (hlow : w0.heap.size ≤ base) (ho : Kd.R k47 47 w base P (.slice A l0.length c) l0) (h : laws_markReportS.f k l0 a1 = some r1) :
  Calls Try.prog 24 #[.slice A l0.length c, .int .i64 a1] w fun e w' => e = .returned (.int .i64 r1) ∧ Below w0.heap.size w0 w' ∧ Kept w w' P := by
 obtain ⟨g, hA, hI⟩ := MReport.start hB hlow ho
 refine (laws_markReportS.walk k A c l0 a1 r1 base g P w0 w hA hI (by have := (Kd.R_reads' ho).2.2.2.1; omega) h).mono ?_
 rintro e w' ⟨rfl, hI'⟩
 exact ⟨rfl, hI'.bel, hI'.kept⟩

/-! ### laws_heldStringS: function 26 -/
def laws_heldStringS.l0 : Nat → List ByteArray → Int → Int → Option (Int)
 | 0, _, _, _ => none
 | k + 1, x0, x1, x5 => if x5 < (x0.length : Int) then (if 0 ≤ x5 then ((laws_markText.f k x1).bind fun t235 => (if (rdOf ByteArray.empty x0 x5).toList = t235.toList then (laws_heldStringS.l0 k x0 (wrap64 (x1 + 1)) (wrap64 (x5 + 1))) else (some (-1)))) else (none)) else (some x1)
def laws_heldStringS.f (k : Nat) (l0 : List ByteArray) (a1 : Int) : Option (Int) := laws_heldStringS.l0 k l0 a1 0
theorem laws_heldStringS.mono_l : ∀ k, (∀ y0 y1 y2, LeO (laws_heldStringS.l0 k y0 y1 y2) (laws_heldStringS.l0 (k + 1) y0 y1 y2))
 | 0 => fun _ _ _ r h => by simp [laws_heldStringS.l0] at h
 | k + 1 => by
  have ih0 := laws_heldStringS.mono_l k
  ·intro y0 y1 y2
   unfold laws_heldStringS.l0
   repeat' first
   | (with_reducible exact ih0 _ _ _)
   | (with_reducible exact laws_markText.mono _ _)
   | (with_reducible exact LeO.refl _)
   | (with_reducible exact LeO.none _)
   | (with_reducible refine LeO.ite ?_ ?_)
   | (with_reducible refine LeO.bind ?_ (fun _ => ?_))
   | refine LeO.ite ?_ ?_
   | refine LeO.bind ?_ (fun _ => ?_)
theorem laws_heldStringS.mono : ∀ a0 a1 k, LeO (laws_heldStringS.f k a0 a1) (laws_heldStringS.f (k + 1) a0 a1) := by
 intro a0 a1 k
 have ih0 := laws_heldStringS.mono_l k
 unfold laws_heldStringS.f
 repeat' first
   | (with_reducible exact ih0 _ _ _)
   | (with_reducible exact laws_markText.mono _ _)
   | (with_reducible exact LeO.refl _)
   | (with_reducible exact LeO.none _)
   | (with_reducible refine LeO.ite ?_ ?_)
   | (with_reducible refine LeO.bind ?_ (fun _ => ?_))
   | refine LeO.ite ?_ ?_
   | refine LeO.bind ?_ (fun _ => ?_)
set_option maxHeartbeats 8000000 in
set_option maxRecDepth 100000 in
theorem laws_heldStringS.calls (k : Nat) (A0 : Option Addr) (c0 : Nat) (l0 : List ByteArray) (a1 : Int) (r : Int) (w : World) (hr0 : Kd.C Kd.string w A0 l0.length l0) (hc0 : l0.length ≤ c0) (h : laws_heldStringS.f k l0 a1 = some r) :
  Calls Try.prog 26 #[.slice A0 l0.length c0, .int .i64 a1] w fun e w' => e = .returned (.int .i64 r) ∧ Below w.heap.size w w' := by
 have HR0 := Aside0.mk hr0; have HC0 := Aside0.mk hc0; clear hr0 hc0; have HB := Aside0.mk (Below.refl w.heap.size w)
 have H : (laws_heldStringS.l0 k l0 a1 0) = some r := h
 clear h; have H' := Aside0.mk H; clear H
 go_enter Try.func26, Try.ntmps26
 go_wp2
 go_loopg [1, 5] k (fun kq v1 v5 w' => ∃ (x1_1 : Int) (x5_1 : Int), v1 = .int .i64 x1_1 ∧ v5 = .int .i64 x5_1 ∧ Aside0 (laws_heldStringS.l0 kq l0 x1_1 x5_1 = some r) ∧ Aside0 (kq ≤ k) ∧ Aside0 (Below w.heap.size w w'))
 case atStart => exact ⟨(a1), (0), (by first | rfl | (simp; done) | (simp [*]; done)), (by first | rfl | (simp; done) | (simp [*]; done)), H', ⟨Nat.le_refl _⟩, ⟨by repeat (first | (with_reducible first | exact HB.out | apply below_alloc | apply pw_below_drewN | apply below_drew1) | exact HB.out)⟩⟩
 case round =>
  clear H'; try clear c2; try clear p2
  obtain ⟨x1_1, x5_1, rfl, rfl, HA, HK1, HB⟩ := hrel
  cases gk with
  | zero => exact absurd HA.out (by simp [laws_heldStringS.l0])
  | succ k1 =>
   have H := HA.out; clear HA
   simp only [laws_heldStringS.l0] at H
   by_cases c3 : x5_1 < (l0.length : Int)
   ·rw [if_pos c3] at H
    have c3b0 : decide (x5_1 < (l0.length : Int)) = true := decide_eq_true c3
    clear c3
    by_cases c4 : 0 ≤ x5_1
    ·rw [if_pos c4] at H
     have c4b0 : decide (0 ≤ x5_1) = true := decide_eq_true c4
     clear c4
     replace H := Option.bind_eq_some_iff.mp H
     obtain ⟨t235, A50, H⟩ := H
     replace H : (if (rdOf ByteArray.empty l0 x5_1).toList = t235.toList then (laws_heldStringS.l0 k1 l0 (wrap64 (x1_1 + 1)) (wrap64 (x5_1 + 1))) else (some (-1))) = some r := H
     have A5 := Aside0.mk A50; clear A50
     by_cases c6 : (rdOf ByteArray.empty l0 x5_1).toList = t235.toList
     ·rw [if_pos c6] at H
      have c6b0 : ((rdOf ByteArray.empty l0 x5_1).toList == t235.toList) = true := beq_iff_eq.mpr c6
      have c6b1 : ((rdOf ByteArray.empty l0 x5_1).toList != t235.toList) = false := bne_eq_false_iff_eq.mpr c6
      clear c6; have H' := Aside0.mk H; clear H; try go_wp2; replace HB := Aside0.mk (below_drew1 HB.out)
      have p234 : 0 ≤ (x5_1 : Int) := of_decide_eq_true (by first | (with_reducible assumption) | assumption)
      have q234 : x5_1 < (l0.length : Int) := of_decide_eq_true (by first | (with_reducible assumption) | assumption)
      obtain ⟨ad234, e234, hx234_0⟩ := Kd.at_string HR0.out x5_1 p234 q234
      have hw234_0 := hx234_0
      cases e234
      replace hx234_0 := cup_ HB.out hx234_0
      replace p234 := eq_true p234
      replace q234 := eq_true q234
      refine start_ (n := 7) (S := fun w' => w'.cell? (ad234.add (x5_1).toNat) = some (.string (rdOf ByteArray.empty l0 x5_1))) (ds := []) #[ff,ff,ff,ff,ff,ff,ff] (by kernel_rfl) rfl rfl (((HB.out.cell (World.block_lt_of_cell? w _ hw234_0)).trans hw234_0)) (fun hHeld => ?_)
      generalize wr.drew = w7 at HB hx234_0 hHeld ⊢
      refine pure_ (i := 0) (N := some 12) (v := ?_) (a' := ?_) #[tt,ff,ff,ff,ff,ff,ff] rfl rfl (by kernel_rfl) (fun _ _ _ h => h) (Or.inl ⟨by rfl, ?_⟩) ?_ ?_
      rotate_left
      ·intro w'
       go_simp
       with_reducible rfl
      rotate_left
      ·simp only [Act.put, ps_]
       rfl
      refine pure_ (i := 1) (N := some 13) (v := ?_) (a' := ?_) #[tt,tt,ff,ff,ff,ff,ff] rfl rfl (by kernel_rfl) (fun _ _ _ h => h) (Or.inl ⟨by rfl, ?_⟩) ?_ ?_
      rotate_left
      ·intro w'
       go_simp
       with_reducible rfl
      rotate_left
      ·simp only [Act.put, ps_]
       rfl
      refine pure_ (i := 2) (N := some 14) (v := ?_) (a' := ?_) #[tt,tt,tt,ff,ff,ff,ff] rfl rfl (by kernel_rfl) (fun _ _ _ h => h) (Or.inl ⟨by rfl, ?_⟩) ?_ ?_
      rotate_left
      ·intro w'
       go_simp
       with_reducible rfl
      rotate_left
      ·simp only [Act.put, ps_]
       rfl
      refine pure_ (i := 4) (N := some 16) (v := ?_) (a' := ?_) #[tt,tt,tt,ff,tt,ff,ff] rfl rfl (by kernel_rfl) (fun _ _ _ h => h) (Or.inl ⟨by rfl, ?_⟩) ?_ ?_
      rotate_left
      ·intro w'
       go_simp
       with_reducible rfl
      rotate_left
      ·simp only [Act.put, ps_]
       rfl
      refine take_ (i := 3) (N := some 15) (v := ?_) (a' := ?_) #[tt,tt,tt,tt,tt,ff,ff] rfl rfl (by kernel_rfl) (fun _ _ _ h => h) (Or.inl ⟨by rfl, ?_⟩) hHeld ?_ ?_
      rotate_left
      ·intro w' s0
       go_simp
       with_reducible rfl
      rotate_left
      ·simp only [Act.put, ps_]
       rfl
      refine one_ (i := 5) (N := some 17) #[tt,tt,tt,tt,tt,tt,ff] rfl rfl (by kernel_rfl) (by decide) (fun K hK => ?_)
      refine goes_ Try.func69 (by kernel_rfl) rfl #[.int .i64 x1_1] (by rfl) rfl rfl (by (try simp only [List.map_toArray, List.map_cons, List.map_nil]); first | done | rfl) ?_
      with_reducible refine (laws_markText.calls k1 x1_1 t235 _ A5.out).mono ?_
      rintro e w8 ⟨rfl, hb⟩
      refine ⟨_, rfl, ?_⟩
      replace HB := Aside0.mk (below_step (by repeat first | (with_reducible first | exact HB.out | apply below_alloc | apply pw_below_drewN | apply below_drew1) | exact HB.out) hb)
      (try clear hb)
      (try clear hb2)
      (try clear hk)
      (try clear hi)
      refine hK.out _ _ (((HB.out.cell (World.block_lt_of_cell? w _ hw234_0)).trans hw234_0)) (fun hHeld => ?_)
      clear hK K
      refine norm_ (a' := ?_) ?_ ?_
      rotate_left
      ·show Act.put _ (some 17) _ = _
       simp only [Act.put, ps_]
       rfl
      refine pure_ (i := 6) (N := some 18) (v := ?_) (a' := ?_) #[tt,tt,tt,tt,tt,tt,tt] rfl rfl (by kernel_rfl) (fun _ _ _ h => h) (Or.inl ⟨by rfl, ?_⟩) ?_ ?_
      rotate_left
      ·intro w'
       go_simp
       with_reducible rfl
      rotate_left
      ·simp only [Act.put, ps_]
       rfl
      refine done_ (by kernel_rfl) ?_
      try go_wp2
      go_roundg k1
      case measure => have := HK1.out; omega
      case rel => exact ⟨(wrap64 (x1_1 + 1)), (wrap64 (x5_1 + 1)), (by first | rfl | (simp; done) | (simp [*]; done)), (by first | rfl | (simp; done) | (simp [*]; done)), H', ⟨by have := HK1.out; omega⟩, ⟨by repeat (first | (with_reducible first | exact HB.out | apply below_alloc | apply pw_below_drewN | apply below_drew1) | exact HB.out)⟩⟩
     ·rw [if_neg c6] at H
      have c6b0 : ((rdOf ByteArray.empty l0 x5_1).toList == t235.toList) = false := beq_eq_false_iff_ne.mpr c6
      have c6b1 : ((rdOf ByteArray.empty l0 x5_1).toList != t235.toList) = true := bne_iff_ne.mpr c6
      obtain rfl := Option.some.inj H
      try go_wp2; replace HB := Aside0.mk (below_drew1 HB.out)
      have p234 : 0 ≤ (x5_1 : Int) := of_decide_eq_true (by first | (with_reducible assumption) | assumption)
      have q234 : x5_1 < (l0.length : Int) := of_decide_eq_true (by first | (with_reducible assumption) | assumption)
      obtain ⟨ad234, e234, hx234_0⟩ := Kd.at_string HR0.out x5_1 p234 q234
      have hw234_0 := hx234_0
      cases e234
      replace hx234_0 := cup_ HB.out hx234_0
      replace p234 := eq_true p234
      replace q234 := eq_true q234
      refine start_ (n := 7) (S := fun w' => w'.cell? (ad234.add (x5_1).toNat) = some (.string (rdOf ByteArray.empty l0 x5_1))) (ds := []) #[ff,ff,ff,ff,ff,ff,ff] (by kernel_rfl) rfl rfl (((HB.out.cell (World.block_lt_of_cell? w _ hw234_0)).trans hw234_0)) (fun hHeld => ?_)
      generalize wr.drew = w9 at HB hx234_0 hHeld ⊢
      refine pure_ (i := 0) (N := some 12) (v := ?_) (a' := ?_) #[tt,ff,ff,ff,ff,ff,ff] rfl rfl (by kernel_rfl) (fun _ _ _ h => h) (Or.inl ⟨by rfl, ?_⟩) ?_ ?_
      rotate_left
      ·intro w'
       go_simp
       with_reducible rfl
      rotate_left
      ·simp only [Act.put, ps_]
       rfl
      refine pure_ (i := 1) (N := some 13) (v := ?_) (a' := ?_) #[tt,tt,ff,ff,ff,ff,ff] rfl rfl (by kernel_rfl) (fun _ _ _ h => h) (Or.inl ⟨by rfl, ?_⟩) ?_ ?_
      rotate_left
      ·intro w'
       go_simp
       with_reducible rfl
      rotate_left
      ·simp only [Act.put, ps_]
       rfl
      refine pure_ (i := 2) (N := some 14) (v := ?_) (a' := ?_) #[tt,tt,tt,ff,ff,ff,ff] rfl rfl (by kernel_rfl) (fun _ _ _ h => h) (Or.inl ⟨by rfl, ?_⟩) ?_ ?_
      rotate_left
      ·intro w'
       go_simp
       with_reducible rfl
      rotate_left
      ·simp only [Act.put, ps_]
       rfl
      refine pure_ (i := 4) (N := some 16) (v := ?_) (a' := ?_) #[tt,tt,tt,ff,tt,ff,ff] rfl rfl (by kernel_rfl) (fun _ _ _ h => h) (Or.inl ⟨by rfl, ?_⟩) ?_ ?_
      rotate_left
      ·intro w'
       go_simp
       with_reducible rfl
      rotate_left
      ·simp only [Act.put, ps_]
       rfl
      refine take_ (i := 3) (N := some 15) (v := ?_) (a' := ?_) #[tt,tt,tt,tt,tt,ff,ff] rfl rfl (by kernel_rfl) (fun _ _ _ h => h) (Or.inl ⟨by rfl, ?_⟩) hHeld ?_ ?_
      rotate_left
      ·intro w' s0
       go_simp
       with_reducible rfl
      rotate_left
      ·simp only [Act.put, ps_]
       rfl
      refine one_ (i := 5) (N := some 17) #[tt,tt,tt,tt,tt,tt,ff] rfl rfl (by kernel_rfl) (by decide) (fun K hK => ?_)
      refine goes_ Try.func69 (by kernel_rfl) rfl #[.int .i64 x1_1] (by rfl) rfl rfl (by (try simp only [List.map_toArray, List.map_cons, List.map_nil]); first | done | rfl) ?_
      with_reducible refine (laws_markText.calls k1 x1_1 t235 _ A5.out).mono ?_
      rintro e w10 ⟨rfl, hb⟩
      refine ⟨_, rfl, ?_⟩
      replace HB := Aside0.mk (below_step (by repeat first | (with_reducible first | exact HB.out | apply below_alloc | apply pw_below_drewN | apply below_drew1) | exact HB.out) hb)
      (try clear hb)
      (try clear hb2)
      (try clear hk)
      (try clear hi)
      refine hK.out _ _ (((HB.out.cell (World.block_lt_of_cell? w _ hw234_0)).trans hw234_0)) (fun hHeld => ?_)
      clear hK K
      refine norm_ (a' := ?_) ?_ ?_
      rotate_left
      ·show Act.put _ (some 17) _ = _
       simp only [Act.put, ps_]
       rfl
      refine pure_ (i := 6) (N := some 18) (v := ?_) (a' := ?_) #[tt,tt,tt,tt,tt,tt,tt] rfl rfl (by kernel_rfl) (fun _ _ _ h => h) (Or.inl ⟨by rfl, ?_⟩) ?_ ?_
      rotate_left
      ·intro w'
       go_simp
       with_reducible rfl
      rotate_left
      ·simp only [Act.put, ps_]
       rfl
      refine done_ (by kernel_rfl) ?_
      try go_wp2
      go_ret
      exact ⟨by first | rfl | (simp [errW_none, errW_some] <;> rfl) | (simp [*, errW_none, errW_some] <;> rfl), by repeat (first | (with_reducible first | exact HB.out | apply below_alloc | apply pw_below_drewN | apply below_drew1) | exact HB.out)⟩
    ·rw [if_neg c4] at H
     exact absurd H (by simp)
   ·rw [if_neg c3] at H
    have c3b0 : decide (x5_1 < (l0.length : Int)) = false := decide_eq_false c3
    clear c3
    obtain rfl := Option.some.inj H
    go_wp2
    go_ret
    exact ⟨by first | rfl | (simp [errW_none, errW_some] <;> rfl) | (simp [*, errW_none, errW_some] <;> rfl), by repeat (first | (with_reducible first | exact HB.out | apply below_alloc | apply pw_below_drewN | apply below_drew1) | exact HB.out)⟩

end Go.Proofs.Ytieghkchhjailaa.V
