-- WRITTEN by wip/ext.py
import Derived.Test.YtadhfpbkanobnaaUx0
import Derived.Test.YtadhfpbkanobnaaUx2
namespace Go.Proofs.Ytadhfpbkanobnaa.U
open Go.RowKit Go.Proofs.YtadhfpbkanobnaaW.PrintWords Go.Proofs.YtadhfpbkanobnaaW.PrintLast Go.Proofs.YtadhfpbkanobnaaW.PrintMore
attribute [local go_sem] max2_int min2_int max_two min_two max_three min_three max_four min_four   -- for this text's walks alone
set_option linter.unusedVariables false
set_option linter.unusedSimpArgs false

/-! ### laws_markStringS: function 19 -/
def laws_markStringS.l0 : Nat → List ByteArray → Int → Int → Option (Int × List ByteArray)
 | 0, _, _, _ => none
 | k + 1, x0, x1, x5 => if x5 < (x0.length : Int) then ((laws_markText.f k x1).bind fun t146 => (if 0 ≤ x5 then (laws_markStringS.l0 k (x0.set (x5 : Int).toNat t146) (wrap64 (x1 + 1)) (wrap64 (x5 + 1))) else (none))) else (some (x1, x0))
def laws_markStringS.f (k : Nat) (l0 : List ByteArray) (a1 : Int) : Option (Int × List ByteArray) := laws_markStringS.l0 k l0 a1 0
theorem laws_markStringS.mono_l : ∀ k, (∀ y0 y1 y2, LeO (laws_markStringS.l0 k y0 y1 y2) (laws_markStringS.l0 (k + 1) y0 y1 y2))
 | 0 => fun _ _ _ r h => by simp [laws_markStringS.l0] at h
 | k + 1 => by
  have ih0 := laws_markStringS.mono_l k
  ·intro y0 y1 y2
   unfold laws_markStringS.l0
   repeat' first
   | (with_reducible exact ih0 _ _ _)
   | (with_reducible exact laws_markText.mono _ _)
   | (with_reducible exact LeO.refl _)
   | (with_reducible exact LeO.none _)
   | (with_reducible refine LeO.ite ?_ ?_)
   | (with_reducible refine LeO.bind ?_ (fun _ => ?_))
   | refine LeO.ite ?_ ?_
   | refine LeO.bind ?_ (fun _ => ?_)
theorem laws_markStringS.mono : ∀ a0 a1 k, LeO (laws_markStringS.f k a0 a1) (laws_markStringS.f (k + 1) a0 a1) := by
 intro a0 a1 k
 have ih0 := laws_markStringS.mono_l k
 unfold laws_markStringS.f
 repeat' first
   | (with_reducible exact ih0 _ _ _)
   | (with_reducible exact laws_markText.mono _ _)
   | (with_reducible exact LeO.refl _)
   | (with_reducible exact LeO.none _)
   | (with_reducible refine LeO.ite ?_ ?_)
   | (with_reducible refine LeO.bind ?_ (fun _ => ?_))
   | refine LeO.ite ?_ ?_
   | refine LeO.bind ?_ (fun _ => ?_)
set_option maxHeartbeats 8000000 in
set_option maxRecDepth 100000 in
theorem laws_markStringS.calls (k : Nat) (P0_ : Nat → Prop) (u9000_ : Value) (l0 : List ByteArray) (a1 : Int) (r1 : Int) (r2 : List ByteArray) (w0 w : World) (hB : Below w0.heap.size w0 w) (ho0 : Kd.R Kd.string 9 w w0.heap.size P0_ u9000_ l0) (h : laws_markStringS.f k l0 a1 = some (r1, r2)) :
  Calls Try.prog 19 #[u9000_, .int .i64 a1] w fun e w' => e = .returned (.int .i64 r1) ∧ Kd.R Kd.string 9 w' w0.heap.size (fun k_ => (P0_ k_ ∨ w.heap.size ≤ k_)) u9000_ r2 ∧ Below w0.heap.size w0 w' ∧ Kept w w' (fun k_ => P0_ k_) := by
 have HO0 := Aside0.mk (show Kd.R Kd.string 9 w w0.heap.size (fun k_ => (P0_ k_ ∨ w.heap.size ≤ k_)) u9000_ l0 from Kd.R_mono ho0 (fun k_ hk => (.inl hk))); have HK := Aside0.mk (Kept.refl w (fun k_ => P0_ k_)); have HW0 := Aside0.mk hB.size; have HB := Aside0.mk hB; clear hB
 have H : (laws_markStringS.l0 k l0 a1 0) = some (r1, r2) := h
 clear h; have H' := Aside0.mk H; clear H
 go_enter Try.func19, Try.ntmps19
 go_wp2
 go_loopg [1, 5] k (fun kq v1 v5 w' => ∃ (x0_1 : List ByteArray) (x1_1 : Int) (x5_1 : Int), v1 = .int .i64 x1_1 ∧ v5 = .int .i64 x5_1 ∧ Aside0 (laws_markStringS.l0 kq x0_1 x1_1 x5_1 = some (r1, r2)) ∧ Aside0 (kq ≤ k) ∧ Aside0 (Kd.R Kd.string 9 w' w0.heap.size (fun k_ => (P0_ k_ ∨ w.heap.size ≤ k_)) u9000_ x0_1) ∧ Aside0 (Kept w w' (fun k_ => P0_ k_)) ∧ Aside0 (Below w0.heap.size w0 w'))
 case atStart => exact ⟨(l0), (a1), (0), (by first | rfl | (simp; done) | (simp [*]; done)), (by first | rfl | (simp; done) | (simp [*]; done)), H', ⟨Nat.le_refl _⟩, ⟨by (with_reducible repeat first | apply Kd.R_alloc | apply Kd.R_drewN | apply Kd.R_drew); exact HO0.out⟩, ⟨by repeat (first | (with_reducible first | exact HK.out | apply Kept.alloc | apply Kept.drewN | apply Kept.drew) | exact HK.out)⟩, ⟨by repeat (first | (with_reducible first | exact HB.out | apply below_alloc | apply pw_below_drewN | apply below_drew1) | exact HB.out)⟩⟩
 case round =>
  clear H'; try clear c1; try clear p2
  obtain ⟨x0_1, x1_1, x5_1, rfl, rfl, HA, HK1, HO_0, HK, HB⟩ := hrel
  cases gk with
  | zero => exact absurd HA.out (by simp [laws_markStringS.l0])
  | succ k1 =>
   have H := HA.out; clear HA
   simp only [laws_markStringS.l0] at H
   by_cases c3 : x5_1 < (x0_1.length : Int)
   ·rw [if_pos c3] at H
    have c3b0 : decide (x5_1 < (x0_1.length : Int)) = true := decide_eq_true c3
    clear c3
    replace H := Option.bind_eq_some_iff.mp H
    obtain ⟨t146, A40, H⟩ := H
    replace H : (if 0 ≤ x5_1 then (laws_markStringS.l0 k1 (x0_1.set (x5_1 : Int).toNat t146) (wrap64 (x1_1 + 1)) (wrap64 (x5_1 + 1))) else (none)) = some (r1, r2) := H
    have A4 := Aside0.mk A40; clear A40
    by_cases c5 : 0 ≤ x5_1
    ·rw [if_pos c5] at H
     have c5b0 : decide (0 ≤ x5_1) = true := decide_eq_true c5
     clear c5
     obtain ⟨y147, hy147⟩ : ∃ y_ : List ByteArray, y_ = (x0_1.set (x5_1 : Int).toNat t146) := ⟨_, rfl⟩
     replace H : (laws_markStringS.l0 k1 y147 (wrap64 (x1_1 + 1)) (wrap64 (x5_1 + 1))) = some (r1, r2) := by first | (rw [hy147]; with_reducible exact H) | (have H2_ := (Option.bind_some _ _).symm.trans H; rw [hy147]; with_reducible exact H2_) | (have H2_ := (Option.bind_some _ _).symm.trans H; with_reducible exact H2_) | with_reducible exact H | (rw [hy147]; exact H) | exact H
     have Ny147 := Aside0.mk hy147; clear hy147; have H' := Aside0.mk H; clear H
     obtain ⟨Ao7, co7, eo7⟩ := Kd.R_slice HO_0.out
     subst eo7
     go_wp2_with (first | ((with_reducible refine gate_callee (f := 41) rfl ?_); refine goesL_ (some 15) rfl rfl Try.func41 (by kernel_rfl) rfl #[.int .i64 x1_1] rfl (by (try simp only [List.map_toArray, List.map_cons, List.map_nil]); first | done | rfl) ?_; (with_reducible refine (laws_markText.calls k1 x1_1 t146 _ A4.out).mono ?_); rintro e w8 ⟨rfl, hb⟩; refine ⟨_, rfl, ?_⟩; replace HO_0 := Aside0.mk (Kd.R_below (by (with_reducible repeat first | apply Kd.R_alloc | apply Kd.R_drewN | apply Kd.R_drew); exact HO_0.out) hb); replace HK := Aside0.mk (Kept.below (S := (fun k_ => P0_ k_)) (by repeat first | (with_reducible first | exact HK.out | apply Kept.alloc | apply Kept.drewN | apply Kept.drew) | exact HK.out) hb); replace HB := Aside0.mk (below_step (by repeat first | (with_reducible first | exact HB.out | apply below_alloc | apply pw_below_drewN | apply below_drew1) | exact HB.out) hb); (try clear hb); have p6 : 0 ≤ (x5_1 : Int) := of_decide_eq_true (by first | (with_reducible assumption) | assumption); have q6 : (x5_1 : Int) < ((x0_1.length : Int) : Int) := of_decide_eq_true (by first | (with_reducible assumption) | assumption); obtain ⟨go6, co6, eo6, gb6, gl6, cl6, HG6⟩ := Kd.R_form HO_0.out (by omega); (first | cases eo6 | (injection eo6 with ea_ en_ ec_; (first | subst ea_ | (injection ea_ with ea_; subst ea_)); subst ec_; clear en_)); have GB6 := Aside0.mk gb6; have GG6 := Aside0.mk HG6; clear gb6 gl6 HG6; have HMgo6 := Aside0.mk (show (P0_ go6 ∨ w.heap.size ≤ go6) from (HO_0.out.1 _ rfl)); obtain ⟨hx6_0, hf6_0⟩ := Kd.R_celln (⟨#[]⟩ : ByteArray) HO_0.out (x5_1 : Int) p6 q6; replace p6 := eq_true p6; replace q6 := eq_true q6; obtain ⟨hy9_, hz9_⟩ := Kd.R_celln (⟨#[]⟩ : ByteArray) HO_0.out (x5_1 : Int) (of_decide_eq_true (by first | (with_reducible assumption) | assumption)) (of_decide_eq_true (by first | (with_reducible assumption) | assumption)); have HP9 := Kd.R_putg HO_0.out (x5_1 : Int) t146) | ((with_reducible refine gate_store (t := 9) (p := 16) rfl ?_); refine store_event (t := 9) (p := 16) (v := ?vo_w10) (w1 := (w8.setCell ⟨go6, (x5_1 : Int).toNat, none⟩ (.string t146))) ?hg ?ho ?hn ?hr ?_; (case ho => rfl); (case hg => rfl); (case hn => rfl); (case hr => first | (go_simp; done) | (go_simp; rfl)); intro w10 hw; have hg : w8.grownBy w10 (some go6) := (by rw [hw]; exact HP9.2); have hp_ : Kd.R Kd.string 9 w10 w0.heap.size (fun k_ => (P0_ k_ ∨ w.heap.size ≤ k_)) (.slice (some ⟨go6, 0, none⟩) x0_1.length co7) y147 := (by rw [hw, Ny147.out]; exact HP9.1); clear HP9; replace HB := Aside0.mk ((by rw [hw]; exact below_set (HB.out) GB6.out : Below w0.heap.size w0 w10)); replace HK := Aside0.mk (Kept.of_grown (S := (fun k_ => P0_ k_)) hg (by repeat first | (with_reducible first | exact HK.out | apply Kept.alloc | apply Kept.drewN | apply Kept.drew) | exact HK.out) (fun k_ e_ => (HO_0.out.1 k_ e_))); replace HO_0 := Aside0.mk (hp_); clear hg hw hp_))
     go_roundg k1
     case measure => have := HK1.out; omega
     case rel => exact ⟨(y147), (wrap64 (x1_1 + 1)), (wrap64 (x5_1 + 1)), (by first | rfl | (simp; done) | (simp [*]; done)), (by first | rfl | (simp; done) | (simp [*]; done)), H', ⟨by have := HK1.out; omega⟩, ⟨by (with_reducible repeat first | apply Kd.R_alloc | apply Kd.R_drewN | apply Kd.R_drew); exact HO_0.out⟩, ⟨by repeat (first | (with_reducible first | exact HK.out | apply Kept.alloc | apply Kept.drewN | apply Kept.drew) | exact HK.out)⟩, ⟨by repeat (first | (with_reducible first | exact HB.out | apply below_alloc | apply pw_below_drewN | apply below_drew1) | exact HB.out)⟩⟩
    ·rw [if_neg c5] at H
     exact absurd H (by simp)
   ·rw [if_neg c3] at H
    have c3b0 : decide (x5_1 < (x0_1.length : Int)) = false := decide_eq_false c3
    clear c3
    simp only [Option.some.injEq, Prod.mk.injEq] at H
    obtain ⟨rfl, rfl⟩ := H
    obtain ⟨Ao11, co11, eo11⟩ := Kd.R_slice HO_0.out
    subst eo11
    go_wp2
    go_ret
    exact ⟨by first | rfl | (simp [errW_none, errW_some] <;> rfl) | (simp [*, errW_none, errW_some] <;> rfl), by (with_reducible repeat first | apply Kd.R_alloc | apply Kd.R_drewN | apply Kd.R_drew); exact HO_0.out, by repeat (first | (with_reducible first | exact HB.out | apply below_alloc | apply pw_below_drewN | apply below_drew1) | exact HB.out), by repeat (first | (with_reducible first | exact HK.out | apply Kept.alloc | apply Kept.drewN | apply Kept.drew) | exact HK.out)⟩

/-! ### laws_markTestS: function 18 -/
/-- A row of values of one kind, whatever they are; its block is in P. -/
def MRow {α : Type} (enc : α → Value) (T base : Nat) (P : Nat → Prop) (n : Nat) (v : Value) (W : World) : Prop :=
 ∃ A c, v = .slice A n c ∧ n ≤ 9223372036854775807 ∧ (0 < n → ∃ g, A = some ⟨g, 0, none⟩ ∧ base ≤ g ∧ P g ∧ (∃ cells, W.heap[g]? = some (.cells cells T (0, 0))) ∧ ∀ j, j < n → ∃ x, W.cell? ⟨g, j, none⟩ = some (enc x))
theorem blkT_set {W : World} {g T : Nat} (h : ∃ cells, W.heap[g]? = some (.cells cells T (0, 0))) (b i : Nat) (u : Value) : ∃ cells, (W.setCell ⟨b, i, none⟩ u).heap[g]? = some (.cells cells T (0, 0)) := by
 obtain ⟨cells, h⟩ := h
 by_cases hp : g = b
 ·subst hp
  exact ⟨cells.setIfInBounds i u, by simp [World.setCell, Array.getElem?_modify, h]⟩
 ·exact ⟨cells, (Below.heap_setCell W ⟨b, i, none⟩ u g hp).trans h⟩
theorem cell_set_enc {α : Type} {enc : α → Value} {W : World} {p : Addr} (h : ∃ x, W.cell? p = some (enc x)) (q : Addr) (y : α) : ∃ x, (W.setCell q (enc y)).cell? p = some (enc x) := by
 obtain ⟨x, h⟩ := h
 by_cases e : q = p
 ·subst e
  exact ⟨y, World.cell?_setCell_same _ _ _ h⟩
 ·exact ⟨x, (World.cell?_setCell_other _ _ _ _ e).trans h⟩
theorem cell_set_ne {W : World} {p q : Addr} {u v : Value} (h : W.cell? p = some u) (e : q ≠ p) : (W.setCell q v).cell? p = some u := (World.cell?_setCell_other _ _ _ _ e).trans h
theorem slice_inj {A A' : Option Addr} {n n' c c' : Nat} (h : Value.slice A n c = Value.slice A' n' c') : A = A' := by
 injection h
theorem addr_inj {g g' : Nat} (h : (some ⟨g, 0, none⟩ : Option Addr) = some ⟨g', 0, none⟩) : g = g' := by
 injection h with h
 injection h
theorem addr_ne {b b' i i' : Nat} (h : b = b' → i ≠ i') : (⟨b, i, none⟩ : Addr) ≠ ⟨b', i', none⟩ := by
 intro e
 injection e with e1 e2 _
 exact h e1 e2
theorem MRow.below {α : Type} {enc : α → Value} {T base : Nat} {P : Nat → Prop} {n : Nat} {v : Value} {W W' : World} (h : MRow enc T base P n v W) (hb : Below W.heap.size W W') : MRow enc T base P n v W' := by
 obtain ⟨A, c, hv, hl, h⟩ := h
 refine ⟨A, c, hv, hl, fun hn => ?_⟩
 obtain ⟨g, hA, h1, h2, ⟨cells, h3⟩, h4⟩ := h hn
 refine ⟨g, hA, h1, h2, ⟨cells, (hb.block g (blk_lt h3)).trans h3⟩, fun j hj => ?_⟩
 obtain ⟨x, hx⟩ := h4 j hj
 exact ⟨x, (hb.cell (World.block_lt_of_cell? _ _ hx)).trans hx⟩
theorem MRow.set_enc {α : Type} {enc : α → Value} {T base : Nat} {P : Nat → Prop} {n : Nat} {v : Value} {W : World} (h : MRow enc T base P n v W) (b i : Nat) (x : α) : MRow enc T base P n v (W.setCell ⟨b, i, none⟩ (enc x)) := by
 obtain ⟨A, c, hv, hl, h⟩ := h
 refine ⟨A, c, hv, hl, fun hn => ?_⟩
 obtain ⟨g, hA, h1, h2, h3, h4⟩ := h hn
 exact ⟨g, hA, h1, h2, blkT_set h3 b i _, fun j hj => cell_set_enc (h4 j hj) _ x⟩
theorem MRow.set_other {α : Type} {enc : α → Value} {T base : Nat} {P : Nat → Prop} {n : Nat} {v : Value} {W : World} (h : MRow enc T base P n v W) {b T' : Nat} (hb : ∃ cells, W.heap[b]? = some (.cells cells T' (0, 0))) (ht : T' ≠ T) (i : Nat) (u : Value) : MRow enc T base P n v (W.setCell ⟨b, i, none⟩ u) := by
 obtain ⟨A, c, hv, hl, h⟩ := h
 refine ⟨A, c, hv, hl, fun hn => ?_⟩
 obtain ⟨g, hA, h1, h2, h3, h4⟩ := h hn
 obtain ⟨_, hb⟩ := hb
 have h3c := h3
 obtain ⟨_, h3'⟩ := h3c
 have hne : b ≠ g := blk_ne hb h3' ht
 refine ⟨g, hA, h1, h2, blkT_set h3 b i _, fun j hj => ?_⟩
 obtain ⟨x, hx⟩ := h4 j hj
 exact ⟨x, cell_set_ne hx (addr_ne (fun e => absurd e hne))⟩
theorem Kd.R_flat {α : Type} {enc : α → Value} {h1 : ∀ x, (enc x).oneCell' = true} {T base : Nat} {ok S : Nat → Prop} {v : Value} {xs : List α} {w w1 : World} (h : (Kd.scalar enc h1).R T w base ok v xs) (hk : Kept w w1 S) (hd : ∀ k, v.ownBlock = some k → ¬ S k) : (Kd.scalar enc h1).R T w1 base ok v xs := by
 obtain ⟨h0, inner, ho, hr⟩ := h
 exact ⟨h0, inner, own_move ho (fun k hk1 => hk.2 k (own_lt ho k hk1) (hd k hk1)), hr⟩
theorem mrow_of {α : Type} {enc : α → Value} {h1 : ∀ x, (enc x).oneCell' = true} {T base : Nat} {ok P : Nat → Prop} {v : Value} {xs : List α} {W : World} (d : α) (h : (Kd.scalar enc h1).R T W base ok v xs) (hok : ∀ k, ok k → P k) : MRow enc T base P xs.length v W := by
 obtain ⟨A, c, rfl⟩ := Kd.R_slice h
 refine ⟨A, c, rfl, by have := (Kd.R_reads' h).2.2.2.1; omega, fun hn => ?_⟩
 obtain ⟨g, cap, hv, hb, _, hc⟩ := Kd.R_form h hn
 have hA := slice_inj hv
 subst hA
 refine ⟨g, rfl, hb, hok g (h.1 g (by simp [Value.ownBlock])), hc, fun j hj => ⟨rdOf d xs (j : Int), ?_⟩⟩
 have := (Kd.R_celln d h (j : Int) (by omega) (by omega)).1
 rwa [Int.toNat_natCast] at this
def laws_markStringS.n : Nat → Nat → Int → Option Int
 | _, 0, a => some a
 | k, m + 1, a => (laws_markText.f k a).bind fun _ => laws_markStringS.n k m (wrap64 (a + 1))
theorem laws_markStringS.n_mono (k : Nat) : ∀ m a, LeO (laws_markStringS.n k m a) (laws_markStringS.n (k + 1) m a)
 | 0, a => LeO.refl _
 | m + 1, a => LeO.bind (laws_markText.mono _ _) (fun _ => laws_markStringS.n_mono k m _)
set_option maxHeartbeats 4000000 in
set_option maxRecDepth 100000 in
theorem laws_markStringS.walk (k n : Nat) (v : Value) (a1 r1 : Int) (base : Nat) (P : Nat → Prop) (w : World) (Inv : World → Prop) (hI : Inv w) (hrow : ∀ W, Inv W → MRow Value.string 9 base P n v W)
  (hset : ∀ W g c j x, Inv W → v = .slice (some ⟨g, 0, none⟩) n c → j < n → Inv (W.setCell ⟨g, j, none⟩ (Value.string x))) (hbel : ∀ W W', Inv W → Below W.heap.size W W' → Inv W') (h : laws_markStringS.n k n a1 = some r1) :
  Calls Try.prog 19 #[v, .int .i64 a1] w fun e w' => e = .returned (.int .i64 r1) ∧ Inv w' := by
 obtain ⟨A, c, rfl, hn, _⟩ := hrow w hI
 have HI := Aside0.mk hI
 have HROW := Aside0.mk hrow
 have HSET := Aside0.mk hset
 have HBEL := Aside0.mk hbel
 have H := Aside0.mk h
 clear hI hrow hset hbel h
 go_enter Try.func19, Try.ntmps19
 go_wp2
 go_loopg [1, 5] n (fun gg v1 v5 wr => ∃ (x1 x5 : Int) (m : Nat), v1 = .int .i64 x1 ∧ v5 = .int .i64 x5 ∧ Aside0 (0 ≤ x5 ∧ x5.toNat + m = n) ∧ m ≤ gg ∧ Aside0 (laws_markStringS.n k m x1 = some r1) ∧ Aside0 (Inv wr))
 case atStart => exact ⟨a1, 0, n, rfl, rfl, ⟨by decide, by simp⟩, Nat.le_refl _, H, HI⟩
 case round =>
  clear H HI
  obtain ⟨x1, x5, m, rfl, rfl, HM, hg, H, HI⟩ := hrel
  cases m with
  | zero =>
   have c3b0 : decide (x5 < (n : Int)) = false := decide_eq_false (by have := HM.out; omega)
   have hr := H.out
   unfold laws_markStringS.n at hr
   obtain rfl := Option.some.inj hr
   clear H hr hg
   go_wp2
   go_ret
   exact ⟨rfl, HI.out⟩
  | succ m =>
   have c3b0 : decide (x5 < (n : Int)) = true := decide_eq_true (by have := HM.out; omega)
   have p6 : (0 ≤ x5) = True := eq_true HM.out.1
   have q6 : (x5 < (n : Int)) = True := eq_true (by have := HM.out; omega)
   have HLT := Aside0.mk (show x5.toNat < n by have := HM.out; omega)
   have hr := H.out
   unfold laws_markStringS.n at hr
   clear H
   obtain ⟨t0, A00, hr⟩ := Option.bind_eq_some_iff.mp hr
   have A0 := Aside0.mk A00
   have H := Aside0.mk hr
   clear A00 hr
   obtain ⟨A_, c_, e_, _, hR⟩ := HROW.out _ HI.out
   obtain ⟨g, hA, _⟩ := hR (by have := HLT.out; omega)
   have eA : A = some ⟨g, 0, none⟩ := (slice_inj e_).trans hA
   subst eA
   clear e_ hR hA
   go_wp2_with (first | ((with_reducible refine gate_callee (f := 41) rfl ?_); refine goesL_ (some 15) rfl rfl Try.func41 (by kernel_rfl) rfl #[.int .i64 x1] rfl (by (try simp only [List.map_toArray, List.map_cons, List.map_nil]); first | done | rfl) ?_; (with_reducible refine (laws_markText.calls k x1 t0 _ A0.out).mono ?_); rintro e w1 ⟨rfl, hb⟩; refine ⟨_, rfl, ?_⟩; replace HI := Aside0.mk (HBEL.out _ _ HI.out hb); clear hb; obtain ⟨A2_, c2_, e2_, _, hR2_⟩ := HROW.out _ HI.out; obtain ⟨g2_, hA2_, _, _, hB2_, hC2_⟩ := hR2_ (by have := HLT.out; omega); have e6_ := addr_inj ((slice_inj e2_).trans hA2_); subst e6_; obtain ⟨s_, hx_⟩ := hC2_ x5.toNat HLT.out; obtain ⟨cl_, hcl_⟩ := hB2_; have hf_ := blk_frozen hcl_ x5.toNat; clear e2_ hA2_ hR2_ hC2_ hcl_) | ((with_reducible refine gate_store (t := 9) (p := 16) rfl ?_); refine store_event (t := 9) (p := 16) (v := ?vo_w2) (w1 := (w1.setCell ⟨g, (x5 : Int).toNat, none⟩ (.string t0))) ?hg ?ho ?hn ?hr ?_; (case ho => rfl); (case hg => rfl); (case hn => rfl); (case hr => first | (go_simp; done) | (go_simp; rfl)); intro w2 hw; replace HI := Aside0.mk (show Inv w2 by rw [hw]; exact HSET.out _ g c _ _ HI.out rfl HLT.out); clear hw))
   go_roundg m
   case measure => omega
   case rel => exact ⟨(wrap64 (x1 + 1)), (wrap64 (x5 + 1)), m, (by first | rfl | (simp; done) | (simp [*]; done)), (by first | rfl | (simp; done) | (simp [*]; done)), ⟨by have := HM.out; rw [show wrap64 (x5 + 1) = x5 + 1 from by unfold wrap64; omega]; omega⟩, by omega, H, HI⟩
structure MTest (base g n : Nat) (P : Nat → Prop) (H : Nat → Nat → Value) (L : Nat → Nat → Nat) (w0 wS W : World) : Prop where
 blk : 0 < n → base ≤ g ∧ P g ∧ ∃ cells, W.heap[g]? = some (.cells cells 31 (0, 0))
 c0 : ∀ i, i < n → ∃ x, W.cell? ⟨g, i * 4, none⟩ = some (Value.string x)
 c1 : ∀ i, i < n → ∃ x, W.cell? ⟨g, i * 4 + 1, none⟩ = some (Value.string x)
 c2 : ∀ i, i < n → W.cell? ⟨g, i * 4 + 2, none⟩ = some (H i 2)
 r2 : ∀ i, i < n → MRow Value.string 9 base P (L i 2) (H i 2) W
 c3 : ∀ i, i < n → W.cell? ⟨g, i * 4 + 3, none⟩ = some (H i 3)
 r3 : ∀ i, i < n → MRow Value.string 9 base P (L i 3) (H i 3) W
 bel : Below w0.heap.size w0 W
 kept : Kept wS W P
 low : w0.heap.size ≤ base
theorem MTest.below {base g n : Nat} {P : Nat → Prop} {H : Nat → Nat → Value} {L : Nat → Nat → Nat} {w0 wS W : World} (h : MTest base g n P H L w0 wS W) {W' : World} (hb : Below W.heap.size W W') : MTest base g n P H L w0 wS W' where
 blk hn := by
  obtain ⟨h1, h2, cells, h3⟩ := h.blk hn
  exact ⟨h1, h2, cells, (hb.block g (blk_lt h3)).trans h3⟩
 c0 i hi := by
  obtain ⟨x, hx⟩ := h.c0 i hi
  exact ⟨x, (hb.cell (World.block_lt_of_cell? _ _ hx)).trans hx⟩
 c1 i hi := by
  obtain ⟨x, hx⟩ := h.c1 i hi
  exact ⟨x, (hb.cell (World.block_lt_of_cell? _ _ hx)).trans hx⟩
 c2 i hi := (hb.cell (World.block_lt_of_cell? _ _ (h.c2 i hi))).trans (h.c2 i hi)
 r2 i hi := (h.r2 i hi).below hb
 c3 i hi := (hb.cell (World.block_lt_of_cell? _ _ (h.c3 i hi))).trans (h.c3 i hi)
 r3 i hi := (h.r3 i hi).below hb
 bel := below_step h.bel hb
 kept := h.kept.below hb
 low := h.low
theorem MTest.set0 {base g n : Nat} {P : Nat → Prop} {H : Nat → Nat → Value} {L : Nat → Nat → Nat} {w0 wS W : World} (h : MTest base g n P H L w0 wS W) {m : Nat} (hm : m < n) (y : ByteArray) : MTest base g n P H L w0 wS (W.setCell ⟨g, m * 4, none⟩ (Value.string y)) where
 blk hn := ⟨(h.blk hn).1, (h.blk hn).2.1, blkT_set (h.blk hn).2.2 _ _ _⟩
 c0 i hi := cell_set_enc (h.c0 i hi) _ y
 c1 i hi := by
  obtain ⟨x, hx⟩ := h.c1 i hi
  exact ⟨x, cell_set_ne hx (addr_ne (fun _ => by omega))⟩
 c2 i hi := cell_set_ne (h.c2 i hi) (addr_ne (fun _ => by omega))
 r2 i hi := (h.r2 i hi).set_other (h.blk (by omega)).2.2 (by decide) _ _
 c3 i hi := cell_set_ne (h.c3 i hi) (addr_ne (fun _ => by omega))
 r3 i hi := (h.r3 i hi).set_other (h.blk (by omega)).2.2 (by decide) _ _
 bel := below_set h.bel (Nat.le_trans h.low (h.blk (by omega)).1)
 kept := h.kept.setCell (.inl (h.blk (by omega)).2.1) _
 low := h.low
theorem MTest.set1 {base g n : Nat} {P : Nat → Prop} {H : Nat → Nat → Value} {L : Nat → Nat → Nat} {w0 wS W : World} (h : MTest base g n P H L w0 wS W) {m : Nat} (hm : m < n) (y : ByteArray) : MTest base g n P H L w0 wS (W.setCell ⟨g, m * 4 + 1, none⟩ (Value.string y)) where
 blk hn := ⟨(h.blk hn).1, (h.blk hn).2.1, blkT_set (h.blk hn).2.2 _ _ _⟩
 c0 i hi := by
  obtain ⟨x, hx⟩ := h.c0 i hi
  exact ⟨x, cell_set_ne hx (addr_ne (fun _ => by omega))⟩
 c1 i hi := cell_set_enc (h.c1 i hi) _ y
 c2 i hi := cell_set_ne (h.c2 i hi) (addr_ne (fun _ => by omega))
 r2 i hi := (h.r2 i hi).set_other (h.blk (by omega)).2.2 (by decide) _ _
 c3 i hi := cell_set_ne (h.c3 i hi) (addr_ne (fun _ => by omega))
 r3 i hi := (h.r3 i hi).set_other (h.blk (by omega)).2.2 (by decide) _ _
 bel := below_set h.bel (Nat.le_trans h.low (h.blk (by omega)).1)
 kept := h.kept.setCell (.inl (h.blk (by omega)).2.1) _
 low := h.low
theorem MTest.put2 {base g n : Nat} {P : Nat → Prop} {H : Nat → Nat → Value} {L : Nat → Nat → Nat} {w0 wS W : World} (h : MTest base g n P H L w0 wS W) {m b c j : Nat} (hm : m < n) (hv : H m 2 = .slice (some ⟨b, 0, none⟩) (L m 2) c) (hj : j < L m 2) (y : ByteArray) : MTest base g n P H L w0 wS (W.setCell ⟨b, j, none⟩ (Value.string y)) := by
 obtain ⟨A, c', e1, _, hR⟩ := h.r2 m hm
 obtain ⟨b', hA, hb1, hb2, hb3, _⟩ := hR (by omega)
 have e4 := addr_inj ((slice_inj (hv.symm.trans e1)).trans hA)
 subst e4
 obtain ⟨_, hg⟩ := (h.blk (by omega)).2.2
 obtain ⟨_, hb4⟩ := hb3
 have hne : b ≠ g := blk_ne hb4 hg (by decide)
 exact {
  blk := fun hn => ⟨(h.blk hn).1, (h.blk hn).2.1, blkT_set (h.blk hn).2.2 _ _ _⟩
  c0 := fun i hi => by
   obtain ⟨x, hx⟩ := h.c0 i hi
   exact ⟨x, cell_set_ne hx (addr_ne (fun e => absurd e hne))⟩
  c1 := fun i hi => by
   obtain ⟨x, hx⟩ := h.c1 i hi
   exact ⟨x, cell_set_ne hx (addr_ne (fun e => absurd e hne))⟩
  c2 := fun i hi => cell_set_ne (h.c2 i hi) (addr_ne (fun e => absurd e hne))
  r2 := fun i hi => (h.r2 i hi).set_enc _ _ y
  c3 := fun i hi => cell_set_ne (h.c3 i hi) (addr_ne (fun e => absurd e hne))
  r3 := fun i hi => (h.r3 i hi).set_enc _ _ y
  bel := below_set h.bel (Nat.le_trans h.low hb1)
  kept := h.kept.setCell (.inl hb2) _
  low := h.low }
theorem MTest.put3 {base g n : Nat} {P : Nat → Prop} {H : Nat → Nat → Value} {L : Nat → Nat → Nat} {w0 wS W : World} (h : MTest base g n P H L w0 wS W) {m b c j : Nat} (hm : m < n) (hv : H m 3 = .slice (some ⟨b, 0, none⟩) (L m 3) c) (hj : j < L m 3) (y : ByteArray) : MTest base g n P H L w0 wS (W.setCell ⟨b, j, none⟩ (Value.string y)) := by
 obtain ⟨A, c', e1, _, hR⟩ := h.r3 m hm
 obtain ⟨b', hA, hb1, hb2, hb3, _⟩ := hR (by omega)
 have e4 := addr_inj ((slice_inj (hv.symm.trans e1)).trans hA)
 subst e4
 obtain ⟨_, hg⟩ := (h.blk (by omega)).2.2
 obtain ⟨_, hb4⟩ := hb3
 have hne : b ≠ g := blk_ne hb4 hg (by decide)
 exact {
  blk := fun hn => ⟨(h.blk hn).1, (h.blk hn).2.1, blkT_set (h.blk hn).2.2 _ _ _⟩
  c0 := fun i hi => by
   obtain ⟨x, hx⟩ := h.c0 i hi
   exact ⟨x, cell_set_ne hx (addr_ne (fun e => absurd e hne))⟩
  c1 := fun i hi => by
   obtain ⟨x, hx⟩ := h.c1 i hi
   exact ⟨x, cell_set_ne hx (addr_ne (fun e => absurd e hne))⟩
  c2 := fun i hi => cell_set_ne (h.c2 i hi) (addr_ne (fun e => absurd e hne))
  r2 := fun i hi => (h.r2 i hi).set_enc _ _ y
  c3 := fun i hi => cell_set_ne (h.c3 i hi) (addr_ne (fun e => absurd e hne))
  r3 := fun i hi => (h.r3 i hi).set_enc _ _ y
  bel := below_set h.bel (Nat.le_trans h.low hb1)
  kept := h.kept.setCell (.inl hb2) _
  low := h.low }
def laws_markTestS.n : Nat → List S31 → Int → Option Int
 | _, [], a => some a
 | k, x :: t, a => (laws_markText.f k (a)).bind fun _ => (laws_markText.f k (wrap64 (a + 1))).bind fun _ => (laws_markStringS.n k x.f2.length (wrap64 (wrap64 (a + 1) + 1))).bind fun b2 => (laws_markStringS.n k x.f3.length (b2)).bind fun b3 => laws_markTestS.n k t (b3)
theorem laws_markTestS.n_mono (k : Nat) : ∀ t a, LeO (laws_markTestS.n k t a) (laws_markTestS.n (k + 1) t a)
 | [], a => LeO.refl _
 | x :: t, a => LeO.bind (laws_markText.mono _ _) (fun _ => LeO.bind (laws_markText.mono _ _) (fun _ => LeO.bind (laws_markStringS.n_mono k _ _) (fun _ => LeO.bind (laws_markStringS.n_mono k _ _) (fun _ => laws_markTestS.n_mono k t _))))
def laws_markTestS.f (k : Nat) (l0 : List (S31)) (a1 : Int) : Option (Int) := laws_markTestS.n k l0 a1
theorem laws_markTestS.mono : ∀ a0 a1 k, LeO (laws_markTestS.f k a0 a1) (laws_markTestS.f (k + 1) a0 a1) := fun a0 a1 k => laws_markTestS.n_mono k a0 a1
def MTest.h (w : World) (g : Nat) (i j : Nat) : Value := (w.cell? ⟨g, i * 4 + j, none⟩).getD (.slice none 0 0)
def MTest.l (l0 : List (S31)) (i j : Nat) : Nat := match j with
 | 2 => ((l0.getD i z31).f2).length
 | 3 => ((l0.getD i z31).f3).length
 | _ => 0
theorem MTest.start {base : Nat} {P : Nat → Prop} {A : Option Addr} {c : Nat} {l0 : List (S31)} {w0 w : World} (hB : Below w0.heap.size w0 w) (hlow : w0.heap.size ≤ base) (ho : Kd.R k31 31 w base P (.slice A l0.length c) l0) :
  ∃ g, (0 < l0.length → A = some ⟨g, 0, none⟩) ∧ MTest base g l0.length P (MTest.h w g) (MTest.l l0) w0 w w := by
 by_cases hn : 0 < l0.length
 ·obtain ⟨g, cap, hv, hb, _, hc⟩ := Kd.R_form ho hn
  have hA := slice_inj hv
  subst hA
  have el : ∀ i, i < l0.length → ∃ (ce : List Value) (v2 : Value) (v3 : Value), ce = [.string (l0.getD i z31).f0, .string (l0.getD i z31).f1, v2, v3] ∧ MRow Value.string 9 base P (l0.getD i z31).f2.length v2 w ∧ MRow Value.string 9 base P (l0.getD i z31).f3.length v3 w ∧ (∀ j u, ce[j]? = some u → w.cell? ⟨g, i * 4 + j, none⟩ = some u) := by
   intro i hi
   obtain ⟨ce, hcl, hM, hcc, _⟩ := Kd.R_elem ho z31 (i : Int) (by omega) (by omega)
   rw [Int.toNat_natCast] at hcc
   obtain ⟨v2, v3, rfl, g20, g30⟩ := k31_openM hM
   have g2 := mrow_of (P := P) ByteArray.empty g20 (fun k hk => hk.1)
   have g3 := mrow_of (P := P) ByteArray.empty g30 (fun k hk => hk.1)
   exact ⟨_, v2, v3, rfl, g2, g3, hcc⟩
  refine ⟨g, fun _ => rfl, ?_⟩
  refine { blk := fun _ => ⟨hb, ho.1 g (by simp [Value.ownBlock]), hc⟩, c0 := ?c0, c1 := ?c1, c2 := ?c2, c3 := ?c3, r2 := ?r2, r3 := ?r3, bel := hB, kept := Kept.refl _ _, low := hlow }
  case c0 =>
   intro i hi
   obtain ⟨ce, v2, v3, rfl, g2, g3, hcc⟩ := el i hi
   exact ⟨_, hcc 0 _ rfl⟩
  case c1 =>
   intro i hi
   obtain ⟨ce, v2, v3, rfl, g2, g3, hcc⟩ := el i hi
   exact ⟨_, hcc 1 _ rfl⟩
  case c2 =>
   intro i hi
   obtain ⟨ce, v2, v3, rfl, g2, g3, hcc⟩ := el i hi
   exact by
    have := hcc 2 _ rfl
    rw [show MTest.h w g i 2 = v2 from by unfold MTest.h; rw [this]; rfl]
    exact this
  case c3 =>
   intro i hi
   obtain ⟨ce, v2, v3, rfl, g2, g3, hcc⟩ := el i hi
   exact by
    have := hcc 3 _ rfl
    rw [show MTest.h w g i 3 = v3 from by unfold MTest.h; rw [this]; rfl]
    exact this
  case r2 =>
   intro i hi
   obtain ⟨ce, v2, v3, rfl, g2, g3, hcc⟩ := el i hi
   have := hcc 2 _ rfl
   rw [show MTest.h w g i 2 = v2 from by unfold MTest.h; rw [this]; rfl]
   exact g2
  case r3 =>
   intro i hi
   obtain ⟨ce, v2, v3, rfl, g2, g3, hcc⟩ := el i hi
   have := hcc 3 _ rfl
   rw [show MTest.h w g i 3 = v3 from by unfold MTest.h; rw [this]; rfl]
   exact g3
 ·exact ⟨0, fun h => absurd h hn, { blk := fun h => absurd h hn, c0 := fun i hi => absurd hi (by omega), c1 := fun i hi => absurd hi (by omega), c2 := fun i hi => absurd hi (by omega), c3 := fun i hi => absurd hi (by omega), r2 := fun i hi => absurd hi (by omega), r3 := fun i hi => absurd hi (by omega), bel := hB, kept := Kept.refl _ _, low := hlow }⟩
set_option maxHeartbeats 8000000 in
set_option maxRecDepth 100000 in
theorem laws_markTestS.walk (k : Nat) (A : Option Addr) (c : Nat) (l0 : List (S31)) (a1 r1 : Int) (base g : Nat) (P : Nat → Prop) (w0 w : World) (hA : 0 < l0.length → A = some ⟨g, 0, none⟩) (hI : MTest base g l0.length P (MTest.h w g) (MTest.l l0) w0 w w) (hn : l0.length ≤ 9223372036854775807) (h : laws_markTestS.n k l0 a1 = some r1) :
  Calls Try.prog 18 #[.slice A l0.length c, .int .i64 a1] w fun e w' => e = .returned (.int .i64 r1) ∧ MTest base g l0.length P (MTest.h w g) (MTest.l l0) w0 w w' := by
 have MV := Aside0.mk hI
 have HA := Aside0.mk hA
 have H := Aside0.mk h
 clear hI hA h
 go_enter Try.func18, Try.ntmps18
 go_wp2
 go_loopg [1, 5] l0.length (fun gg v1 v5 wr => ∃ (x1 x5 : Int) (m : Nat), v1 = .int .i64 x1 ∧ v5 = .int .i64 x5 ∧ Aside0 (0 ≤ x5 ∧ x5.toNat + m = l0.length) ∧ m ≤ gg ∧ Aside0 (laws_markTestS.n k (l0.drop x5.toNat) x1 = some r1) ∧ Aside0 (MTest base g l0.length P (MTest.h w g) (MTest.l l0) w0 w wr))
 case atStart => exact ⟨a1, 0, l0.length, rfl, rfl, ⟨by decide, by simp⟩, Nat.le_refl _, H, MV⟩
 case round =>
  clear H MV
  obtain ⟨x1, x5, m, rfl, rfl, HM, hg, H, MV⟩ := hrel
  cases m with
  | zero =>
   have c3b0 : decide (x5 < (l0.length : Int)) = false := decide_eq_false (by have := HM.out; omega)
   have hr := H.out
   rw [List.drop_of_length_le (by have := HM.out; omega)] at hr
   unfold laws_markTestS.n at hr
   obtain rfl := Option.some.inj hr
   clear H hr hg
   go_wp2
   go_ret
   exact ⟨rfl, MV.out⟩
  | succ m =>
   have c3b0 : decide (x5 < (l0.length : Int)) = true := decide_eq_true (by have := HM.out; omega)
   have p6 : (0 ≤ x5) = True := eq_true HM.out.1
   have q6 : (x5 < (l0.length : Int)) = True := eq_true (by have := HM.out; omega)
   have HLT := Aside0.mk (show x5.toNat < l0.length by have := HM.out; omega)
   have hr := H.out
   obtain ⟨x, hx⟩ : ∃ x, x = l0[x5.toNat]'HLT.out := ⟨_, rfl⟩
   have hgx : l0.getD x5.toNat z31 = x := by rw [hx, List.getD_eq_getElem?_getD, List.getElem?_eq_getElem HLT.out]; rfl
   rw [List.drop_eq_getElem_cons HLT.out, ← hx] at hr
   clear hx H
   unfold laws_markTestS.n at hr
   obtain ⟨t0, A00, hr⟩ := Option.bind_eq_some_iff.mp hr
   have A0 := Aside0.mk A00
   clear A00
   obtain ⟨t1, A10, hr⟩ := Option.bind_eq_some_iff.mp hr
   have A1 := Aside0.mk A10
   clear A10
   obtain ⟨b2, A20, hr⟩ := Option.bind_eq_some_iff.mp hr
   have A2 := Aside0.mk (show laws_markStringS.n k (MTest.l l0 (x5 : Int).toNat 2) (wrap64 (wrap64 (x1 + 1) + 1)) = some b2 by rw [show MTest.l l0 (x5 : Int).toNat 2 = x.f2.length from by show ((l0.getD _ _).f2).length = _; rw [hgx]]; exact A20)
   clear A20
   obtain ⟨b3, A30, hr⟩ := Option.bind_eq_some_iff.mp hr
   have A3 := Aside0.mk (show laws_markStringS.n k (MTest.l l0 (x5 : Int).toNat 3) (b2) = some b3 by rw [show MTest.l l0 (x5 : Int).toNat 3 = x.f3.length from by show ((l0.getD _ _).f3).length = _; rw [hgx]]; exact A30)
   clear A30
   have H := Aside0.mk hr
   clear hr hgx
   have eA := HA.out (by have := HLT.out; omega)
   subst eA
   go_wp2_with (first | ((with_reducible refine gate_callee (f := 41) rfl ?_); refine goesL_ (some 15) rfl rfl Try.func41 (by kernel_rfl) rfl #[.int .i64 (x1)] rfl (by (try simp only [List.map_toArray, List.map_cons, List.map_nil]); first | done | rfl) ?_; (with_reducible refine (laws_markText.calls k (x1) t0 _ A0.out).mono ?_); rintro e w1 ⟨rfl, hb⟩; refine ⟨_, rfl, ?_⟩; replace MV := Aside0.mk (MV.out.below hb); clear hb; obtain ⟨s0_, hx0_⟩ := MV.out.c0 _ HLT.out; obtain ⟨cl0_, hcl0_⟩ := (MV.out.blk (by have := HLT.out; omega)).2.2; have hf0_ := blk_frozen hcl0_ ((x5 : Int).toNat * 4); clear hcl0_) | ((with_reducible refine gate_store (t := 9) (p := 17) rfl ?_); refine store_event (t := 9) (p := 17) (v := ?vo_w2) (w1 := (w1.setCell ⟨g, (x5 : Int).toNat * 4, none⟩ (.string t0))) ?hg ?ho ?hn ?hr ?_; (case ho => rfl); (case hg => rfl); (case hn => rfl); (case hr => first | (go_simp; done) | (go_simp; rfl)); intro w2 hw; replace MV := Aside0.mk (show MTest base g l0.length P (MTest.h w g) (MTest.l l0) w0 w w2 by rw [hw]; exact MV.out.set0 HLT.out _); clear hw) | ((with_reducible refine gate_callee (f := 41) rfl ?_); refine goesL_ (some 23) rfl rfl Try.func41 (by kernel_rfl) rfl #[.int .i64 (wrap64 (x1 + 1))] rfl (by (try simp only [List.map_toArray, List.map_cons, List.map_nil]); first | done | rfl) ?_; (with_reducible refine (laws_markText.calls k (wrap64 (x1 + 1)) t1 _ A1.out).mono ?_); rintro e w3 ⟨rfl, hb⟩; refine ⟨_, rfl, ?_⟩; replace MV := Aside0.mk (MV.out.below hb); clear hb; obtain ⟨s1_, hx1_⟩ := MV.out.c1 _ HLT.out; obtain ⟨cl1_, hcl1_⟩ := (MV.out.blk (by have := HLT.out; omega)).2.2; have hf1_ := blk_frozen hcl1_ ((x5 : Int).toNat * 4 + 1); clear hcl1_) | ((with_reducible refine gate_store (t := 9) (p := 25) rfl ?_); refine store_event (t := 9) (p := 25) (v := ?vo_w4) (w1 := (w3.setCell ⟨g, (x5 : Int).toNat * 4 + 1, none⟩ (.string t1))) ?hg ?ho ?hn ?hr ?_; (case ho => rfl); (case hg => rfl); (case hn => rfl); (case hr => first | (go_simp; done) | (go_simp; rfl)); intro w4 hw; replace MV := Aside0.mk (show MTest base g l0.length P (MTest.h w g) (MTest.l l0) w0 w w4 by rw [hw]; exact MV.out.set1 HLT.out _); clear hw; have hx2_ := MV.out.c2 _ HLT.out) | ((with_reducible refine gate_callee (f := 19) rfl ?_); refine goesL_ (some 34) rfl rfl Try.func19 (by kernel_rfl) rfl #[MTest.h w g (x5 : Int).toNat 2, .int .i64 (wrap64 (wrap64 (x1 + 1) + 1))] rfl (by (try simp only [List.map_toArray, List.map_cons, List.map_nil]); first | done | rfl) ?_; refine (laws_markStringS.walk k (MTest.l l0 (x5 : Int).toNat 2) (MTest.h w g (x5 : Int).toNat 2) (wrap64 (wrap64 (x1 + 1) + 1)) b2 base P _ (MTest base g l0.length P (MTest.h w g) (MTest.l l0) w0 w) MV.out (fun W h => h.r2 _ HLT.out) (fun W b c j y h e hj => h.put2 HLT.out e hj y) (fun W W' h hb => h.below hb) A2.out).mono ?_; rintro e w5 ⟨rfl, hI⟩; refine ⟨_, rfl, ?_⟩; have n0_ := Aside0.mk hI; clear MV hI; have MV := n0_; clear n0_; have hx3_ := MV.out.c3 _ HLT.out) | ((with_reducible refine gate_callee (f := 19) rfl ?_); refine goesL_ (some 41) rfl rfl Try.func19 (by kernel_rfl) rfl #[MTest.h w g (x5 : Int).toNat 3, .int .i64 (b2)] rfl (by (try simp only [List.map_toArray, List.map_cons, List.map_nil]); first | done | rfl) ?_; refine (laws_markStringS.walk k (MTest.l l0 (x5 : Int).toNat 3) (MTest.h w g (x5 : Int).toNat 3) (b2) b3 base P _ (MTest base g l0.length P (MTest.h w g) (MTest.l l0) w0 w) MV.out (fun W h => h.r3 _ HLT.out) (fun W b c j y h e hj => h.put3 HLT.out e hj y) (fun W W' h hb => h.below hb) A3.out).mono ?_; rintro e w6 ⟨rfl, hI⟩; refine ⟨_, rfl, ?_⟩; have n0_ := Aside0.mk hI; clear MV hI; have MV := n0_; clear n0_))
   go_roundg m
   case measure => omega
   case rel => exact ⟨(b3), (wrap64 (x5 + 1)), m, (by first | rfl | (simp; done) | (simp [*]; done)), (by first | rfl | (simp; done) | (simp [*]; done)), ⟨by have := HM.out; rw [show wrap64 (x5 + 1) = x5 + 1 from by unfold wrap64; omega]; omega⟩, by omega, ⟨by have := HM.out; rw [show (wrap64 (x5 + 1)).toNat = x5.toNat + 1 from by unfold wrap64; omega]; exact H.out⟩, MV⟩
/-- .. as the laws call it: of what stood before only blocks in P are turned. -/
theorem laws_markTestS.calls (k : Nat) (P : Nat → Prop) (A : Option Addr) (c : Nat) (l0 : List (S31)) (a1 r1 : Int) (base : Nat) (w0 w : World) (hB : Below w0.heap.size w0 w) (hlow : w0.heap.size ≤ base) (ho : Kd.R k31 31 w base P (.slice A l0.length c) l0) (h : laws_markTestS.f k l0 a1 = some r1) :
  Calls Try.prog 18 #[.slice A l0.length c, .int .i64 a1] w fun e w' => e = .returned (.int .i64 r1) ∧ Below w0.heap.size w0 w' ∧ Kept w w' P := by
 obtain ⟨g, hA, hI⟩ := MTest.start hB hlow ho
 refine (laws_markTestS.walk k A c l0 a1 r1 base g P w0 w hA hI (by have := (Kd.R_reads' ho).2.2.2.1; omega) h).mono ?_
 rintro e w' ⟨rfl, hI'⟩
 exact ⟨rfl, hI'.bel, hI'.kept⟩

/-! ### spec_idOf: function 38 -/
def spec_idOf.f (a0_0 : ByteArray) (a0_1 : ByteArray) (l0_2 : List ByteArray) (l0_3 : List ByteArray) : Option (ByteArray) := if a0_0.size + 1 ≤ 9223372036854775807 then (if a0_0.size + 1 + a0_1.size ≤ 9223372036854775807 then (some ((a0_0 ++ (⟨#[46]⟩ : ByteArray)) ++ a0_1)) else (none)) else (none)
set_option maxHeartbeats 8000000 in
set_option maxRecDepth 100000 in
theorem spec_idOf.calls (a0_0 : ByteArray) (a0_1 : ByteArray) (A0_2 : Option Addr) (c0_2 : Nat) (l0_2 : List ByteArray) (A0_3 : Option Addr) (c0_3 : Nat) (l0_3 : List ByteArray) (r : ByteArray) (w : World) (hr0_2 : Kd.C Kd.string w A0_2 l0_2.length l0_2) (hc0_2 : l0_2.length ≤ c0_2) (hr0_3 : Kd.C Kd.string w A0_3 l0_3.length l0_3) (hc0_3 : l0_3.length ≤ c0_3) (h : spec_idOf.f a0_0 a0_1 l0_2 l0_3 = some r) :
  Calls Try.prog 38 #[.agg #[.string a0_0, .string a0_1, .slice A0_2 l0_2.length c0_2, .slice A0_3 l0_3.length c0_3]] w fun e w' => e = .returned (.string r) ∧ Below w.heap.size w w' := by
 have hu31 := Try.underlying31; have HR0_2 := Aside0.mk hr0_2; have HC0_2 := Aside0.mk hc0_2; clear hr0_2 hc0_2; have HR0_3 := Aside0.mk hr0_3; have HC0_3 := Aside0.mk hc0_3; clear hr0_3 hc0_3; have HB := Aside0.mk (Below.refl w.heap.size w)
 have H : (if a0_0.size + 1 ≤ 9223372036854775807 then (if a0_0.size + 1 + a0_1.size ≤ 9223372036854775807 then (some ((a0_0 ++ (⟨#[46]⟩ : ByteArray)) ++ a0_1)) else (none)) else (none)) = some r := h
 clear h
 by_cases c2 : a0_0.size + 1 ≤ 9223372036854775807
 ·rw [if_pos c2] at H
  have c2b0 := eq_true c2
  have c2b1 : decide (a0_0.size + 1 ≤ 9223372036854775807) = true := decide_eq_true c2
  try have c2b2 : (9223372036854775807 < a0_0.size + 1) = False := eq_false (Nat.not_lt.2 c2)
  by_cases c3 : a0_0.size + 1 + a0_1.size ≤ 9223372036854775807
  ·rw [if_pos c3] at H
   have c3b0 := eq_true c3
   have c3b1 : decide (a0_0.size + 1 + a0_1.size ≤ 9223372036854775807) = true := decide_eq_true c3
   try have c3b2 : (9223372036854775807 < a0_0.size + 1 + a0_1.size) = False := eq_false (Nat.not_lt.2 c3)
   obtain rfl := Option.some.inj H
   go_enter Try.func38, Try.ntmps38
   go_wp2_with (first | ((with_reducible refine gate_dst (N := 1) rfl ?_); refine box_event ?hg (N := 1) ?hd (cs := #[.string a0_0, .string a0_1, .slice A0_2 l0_2.length c0_2, .slice A0_3 l0_3.length c0_3]) (t := 31) ?hr ?_; (case hd => rfl); (case hg => rfl); (case hr => first | (go_simp; done) | (go_simp; rfl)); intro gb148 hg w4 hbox hb; have BK148 := Aside0.mk (hbox); have GW148 := Aside0.mk ((by rw [hg]; exact (below_size (by repeat first | (with_reducible first | exact HB.out | apply below_alloc | apply pw_below_drewN | apply below_drew1) | exact HB.out)) : w.heap.size ≤ gb148)); have GE148 := Aside0.mk ((by rw [hg]; exact (below_size (by repeat first | (with_reducible first | exact HB.out | apply below_alloc | apply pw_below_drewN | apply below_drew1) | exact HB.out)) : w.heap.size ≤ gb148)); replace HB := Aside0.mk (below_step (by repeat first | (with_reducible first | exact HB.out | apply below_alloc | apply pw_below_drewN | apply below_drew1) | exact HB.out) hb); clear hb hbox hg; have hcz5_0 : w4.cell? ⟨gb148, 0, none⟩ = some (.string a0_0) := (blk_cell BK148.out 0).trans rfl; have hcz5_1 : w4.cell? ⟨gb148, 1, none⟩ = some (.string a0_1) := (blk_cell BK148.out 1).trans rfl; have hcz5_2 : w4.cell? ⟨gb148, 2, none⟩ = some (.slice A0_2 l0_2.length c0_2) := (blk_cell BK148.out 2).trans rfl; have hcz5_3 : w4.cell? ⟨gb148, 3, none⟩ = some (.slice A0_3 l0_3.length c0_3) := (blk_cell BK148.out 3).trans rfl; have hfz5_0 := blk_frozen BK148.out 0; have hfz5_1 := blk_frozen BK148.out 1; have hfz5_2 := blk_frozen BK148.out 2; have hfz5_3 := blk_frozen BK148.out 3))
   go_ret
   exact ⟨by first | rfl | (simp [errW_none, errW_some] <;> rfl) | (simp [*, errW_none, errW_some] <;> rfl), by repeat (first | (with_reducible first | exact HB.out | apply below_alloc | apply pw_below_drewN | apply below_drew1 | refine below_set ?_ GE148.out) | exact HB.out)⟩
  ·rw [if_neg c3] at H
   exact absurd H (by simp)
 ·rw [if_neg c2] at H
  exact absurd H (by simp)

/-! ### spec_findTest: function 34 -/
def spec_findTest.l0 : Nat → List (S31) → ByteArray → Int → Option (Int)
 | 0, _, _, _ => none
 | k + 1, x0, x1, x5 => if x5 < (x0.length : Int) then (if 0 ≤ x5 then ((spec_idOf.f ((rd_T31 x0 x5).f0) ((rd_T31 x0 x5).f1) ((rd_T31 x0 x5).f2) ((rd_T31 x0 x5).f3)).bind fun t150 => (if t150.toList = x1.toList then (some x5) else (spec_findTest.l0 k x0 x1 (wrap64 (x5 + 1))))) else (none)) else (some (-1))
def spec_findTest.f (k : Nat) (l0 : List (S31)) (a1 : ByteArray) : Option (Int) := spec_findTest.l0 k l0 a1 0
theorem spec_findTest.mono_l : ∀ k, (∀ y0 y1 y2, LeO (spec_findTest.l0 k y0 y1 y2) (spec_findTest.l0 (k + 1) y0 y1 y2))
 | 0 => fun _ _ _ r h => by simp [spec_findTest.l0] at h
 | k + 1 => by
  have ih0 := spec_findTest.mono_l k
  ·intro y0 y1 y2
   unfold spec_findTest.l0
   repeat' first
   | (with_reducible exact ih0 _ _ _)
   | (with_reducible exact LeO.refl _)
   | (with_reducible exact LeO.none _)
   | (with_reducible refine LeO.ite ?_ ?_)
   | (with_reducible refine LeO.bind ?_ (fun _ => ?_))
   | refine LeO.ite ?_ ?_
   | refine LeO.bind ?_ (fun _ => ?_)
theorem spec_findTest.mono : ∀ a0 a1 k, LeO (spec_findTest.f k a0 a1) (spec_findTest.f (k + 1) a0 a1) := by
 intro a0 a1 k
 have ih0 := spec_findTest.mono_l k
 unfold spec_findTest.f
 repeat' first
   | (with_reducible exact ih0 _ _ _)
   | (with_reducible exact LeO.refl _)
   | (with_reducible exact LeO.none _)
   | (with_reducible refine LeO.ite ?_ ?_)
   | (with_reducible refine LeO.bind ?_ (fun _ => ?_))
   | refine LeO.ite ?_ ?_
   | refine LeO.bind ?_ (fun _ => ?_)
set_option maxHeartbeats 8000000 in
set_option maxRecDepth 100000 in
theorem spec_findTest.calls (k : Nat) (A0 : Option Addr) (c0 : Nat) (l0 : List (S31)) (a1 : ByteArray) (r : Int) (w : World) (hr0 : Kd.C k31 w A0 l0.length l0) (hc0 : l0.length ≤ c0) (h : spec_findTest.f k l0 a1 = some r) :
  Calls Try.prog 34 #[.slice A0 l0.length c0, .string a1] w fun e w' => e = .returned (.int .i64 r) ∧ Below w.heap.size w w' := by
 have hu31 := Try.underlying31; have HR0 := Aside0.mk hr0; have HC0 := Aside0.mk hc0; clear hr0 hc0; have HB := Aside0.mk (Below.refl w.heap.size w)
 have H : (spec_findTest.l0 k l0 a1 0) = some r := h
 clear h; have H' := Aside0.mk H; clear H
 go_enter Try.func34, Try.ntmps34
 go_wp2
 go_loopg [5] k (fun kq v5 w' => ∃ (x5_1 : Int), v5 = .int .i64 x5_1 ∧ Aside0 (spec_findTest.l0 kq l0 a1 x5_1 = some r) ∧ Aside0 (kq ≤ k) ∧ Aside0 (Below w.heap.size w w'))
 case atStart => exact ⟨(0), (by first | rfl | (simp; done) | (simp [*]; done)), H', ⟨Nat.le_refl _⟩, ⟨by repeat (first | (with_reducible first | exact HB.out | apply below_alloc | apply pw_below_drewN | apply below_drew1) | exact HB.out)⟩⟩
 case round =>
  clear H'; try clear p2
  obtain ⟨x5_1, rfl, HA, HK1, HB⟩ := hrel
  cases gk with
  | zero => exact absurd HA.out (by simp [spec_findTest.l0])
  | succ k1 =>
   have H := HA.out; clear HA
   simp only [spec_findTest.l0] at H
   by_cases c3 : x5_1 < (l0.length : Int)
   ·rw [if_pos c3] at H
    have c3b0 : decide (x5_1 < (l0.length : Int)) = true := decide_eq_true c3
    clear c3
    by_cases c4 : 0 ≤ x5_1
    ·rw [if_pos c4] at H
     have c4b0 : decide (0 ≤ x5_1) = true := decide_eq_true c4
     clear c4
     replace H := Option.bind_eq_some_iff.mp H
     obtain ⟨t150, A50, H⟩ := H
     replace H : (if t150.toList = a1.toList then (some x5_1) else (spec_findTest.l0 k1 l0 a1 (wrap64 (x5_1 + 1)))) = some r := H
     have A5 := Aside0.mk A50; clear A50
     by_cases c6 : t150.toList = a1.toList
     ·rw [if_pos c6] at H
      have c6b0 : (t150.toList == a1.toList) = true := beq_iff_eq.mpr c6
      have c6b1 : (t150.toList != a1.toList) = false := bne_eq_false_iff_eq.mpr c6
      clear c6
      obtain rfl := Option.some.inj H
      have p149 : 0 ≤ (x5_1 : Int) := of_decide_eq_true (by first | (with_reducible assumption) | assumption)
      have q149 : x5_1 < (l0.length : Int) := of_decide_eq_true (by first | (with_reducible assumption) | assumption)
      obtain ⟨ad149, A149_2, c149_2, A149_3, c149_3, e149, hx149_0, hx149_1, hx149_2, hx149_3, hl149_2, hi149_2, hl149_3, hi149_3⟩ := at_T31 HR0.out x5_1 p149 q149
      cases e149
      replace hx149_0 := cup_ HB.out hx149_0; replace hx149_1 := cup_ HB.out hx149_1; replace hx149_2 := cup_ HB.out hx149_2; replace hx149_3 := cup_ HB.out hx149_3
      have HR149_2 := Aside0.mk hi149_2; have HC149_2 := Aside0.mk hl149_2; clear hi149_2 hl149_2; have HR149_3 := Aside0.mk hi149_3; have HC149_3 := Aside0.mk hl149_3; clear hi149_3 hl149_3
      replace p149 := eq_true p149
      replace q149 := eq_true q149
      go_wp2_with (first | ((with_reducible refine gate_callee (f := 38) rfl ?_); refine goesL_ (some 16) rfl rfl Try.func38 (by kernel_rfl) rfl #[.agg #[.string ((rd_T31 l0 x5_1).f0), .string ((rd_T31 l0 x5_1).f1), .slice A149_2 ((rd_T31 l0 x5_1).f2).length c149_2, .slice A149_3 ((rd_T31 l0 x5_1).f3).length c149_3]] rfl (by (try simp only [List.map_toArray, List.map_cons, List.map_nil]); first | done | rfl) ?_; (with_reducible refine (spec_idOf.calls ((rd_T31 l0 x5_1).f0) ((rd_T31 l0 x5_1).f1) _ _ ((rd_T31 l0 x5_1).f2) _ _ ((rd_T31 l0 x5_1).f3) t150 _ ?side1 ?side2 ?side3 ?side4 A5.out).mono ?_); (case side1 => repeat (first | exact (Kd.C_below HR149_2.out HB.out) | with_reducible first | apply Kd.C_alloc | apply Kd.C_drewN | apply Kd.C_drew)); (case side2 => exact HC149_2.out); (case side3 => repeat (first | exact (Kd.C_below HR149_3.out HB.out) | with_reducible first | apply Kd.C_alloc | apply Kd.C_drewN | apply Kd.C_drew)); (case side4 => exact HC149_3.out); rintro e w7 ⟨rfl, hb⟩; refine ⟨_, rfl, ?_⟩; replace HB := Aside0.mk (below_step (by repeat first | (with_reducible first | exact HB.out | apply below_alloc | apply pw_below_drewN | apply below_drew1) | exact HB.out) hb); (try clear hb)))
      go_ret
      exact ⟨by first | rfl | (simp [errW_none, errW_some] <;> rfl) | (simp [*, errW_none, errW_some] <;> rfl), by repeat (first | (with_reducible first | exact HB.out | apply below_alloc | apply pw_below_drewN | apply below_drew1) | exact HB.out)⟩
     ·rw [if_neg c6] at H
      have c6b0 : (t150.toList == a1.toList) = false := beq_eq_false_iff_ne.mpr c6
      have c6b1 : (t150.toList != a1.toList) = true := bne_iff_ne.mpr c6
      have H' := Aside0.mk H; clear H
      have p149 : 0 ≤ (x5_1 : Int) := of_decide_eq_true (by first | (with_reducible assumption) | assumption)
      have q149 : x5_1 < (l0.length : Int) := of_decide_eq_true (by first | (with_reducible assumption) | assumption)
      obtain ⟨ad149, A149_2, c149_2, A149_3, c149_3, e149, hx149_0, hx149_1, hx149_2, hx149_3, hl149_2, hi149_2, hl149_3, hi149_3⟩ := at_T31 HR0.out x5_1 p149 q149
      cases e149
      replace hx149_0 := cup_ HB.out hx149_0; replace hx149_1 := cup_ HB.out hx149_1; replace hx149_2 := cup_ HB.out hx149_2; replace hx149_3 := cup_ HB.out hx149_3
      have HR149_2 := Aside0.mk hi149_2; have HC149_2 := Aside0.mk hl149_2; clear hi149_2 hl149_2; have HR149_3 := Aside0.mk hi149_3; have HC149_3 := Aside0.mk hl149_3; clear hi149_3 hl149_3
      replace p149 := eq_true p149
      replace q149 := eq_true q149
      go_wp2_with (first | ((with_reducible refine gate_callee (f := 38) rfl ?_); refine goesL_ (some 16) rfl rfl Try.func38 (by kernel_rfl) rfl #[.agg #[.string ((rd_T31 l0 x5_1).f0), .string ((rd_T31 l0 x5_1).f1), .slice A149_2 ((rd_T31 l0 x5_1).f2).length c149_2, .slice A149_3 ((rd_T31 l0 x5_1).f3).length c149_3]] rfl (by (try simp only [List.map_toArray, List.map_cons, List.map_nil]); first | done | rfl) ?_; (with_reducible refine (spec_idOf.calls ((rd_T31 l0 x5_1).f0) ((rd_T31 l0 x5_1).f1) _ _ ((rd_T31 l0 x5_1).f2) _ _ ((rd_T31 l0 x5_1).f3) t150 _ ?side1 ?side2 ?side3 ?side4 A5.out).mono ?_); (case side1 => repeat (first | exact (Kd.C_below HR149_2.out HB.out) | with_reducible first | apply Kd.C_alloc | apply Kd.C_drewN | apply Kd.C_drew)); (case side2 => exact HC149_2.out); (case side3 => repeat (first | exact (Kd.C_below HR149_3.out HB.out) | with_reducible first | apply Kd.C_alloc | apply Kd.C_drewN | apply Kd.C_drew)); (case side4 => exact HC149_3.out); rintro e w8 ⟨rfl, hb⟩; refine ⟨_, rfl, ?_⟩; replace HB := Aside0.mk (below_step (by repeat first | (with_reducible first | exact HB.out | apply below_alloc | apply pw_below_drewN | apply below_drew1) | exact HB.out) hb); (try clear hb)))
      go_roundg k1
      case measure => have := HK1.out; omega
      case rel => exact ⟨(wrap64 (x5_1 + 1)), (by first | rfl | (simp; done) | (simp [*]; done)), H', ⟨by have := HK1.out; omega⟩, ⟨by repeat (first | (with_reducible first | exact HB.out | apply below_alloc | apply pw_below_drewN | apply below_drew1) | exact HB.out)⟩⟩
    ·rw [if_neg c4] at H
     exact absurd H (by simp)
   ·rw [if_neg c3] at H
    have c3b0 : decide (x5_1 < (l0.length : Int)) = false := decide_eq_false c3
    clear c3
    obtain rfl := Option.some.inj H
    go_wp2
    go_ret
    exact ⟨by first | rfl | (simp [errW_none, errW_some] <;> rfl) | (simp [*, errW_none, errW_some] <;> rfl), by repeat (first | (with_reducible first | exact HB.out | apply below_alloc | apply pw_below_drewN | apply below_drew1) | exact HB.out)⟩

/-! ### spec_inRange: function 68 -/
def spec_inRange.f (a0 : Int) (a1 : Int) (a2 : Int) : Option (Bool) := if a1 ≤ a0 then (some (decide (a0 ≤ a2))) else (some false)
set_option maxHeartbeats 8000000 in
set_option maxRecDepth 100000 in
theorem spec_inRange.calls (a0 : Int) (a1 : Int) (a2 : Int) (r : Bool) (w : World) (h : spec_inRange.f a0 a1 a2 = some r) :
  Calls Try.prog 68 #[.int .i64 a0, .int .i64 a1, .int .i64 a2] w fun e w' => e = .returned (.bool r) ∧ Drawn0 w w' := by
 have H : (if a1 ≤ a0 then (some (decide (a0 ≤ a2))) else (some false)) = some r := h
 clear h
 by_cases c4 : a1 ≤ a0
 ·rw [if_pos c4] at H
  have c4b0 : decide (a1 ≤ a0) = true := decide_eq_true c4
  clear c4
  obtain rfl := Option.some.inj H
  go_enter Try.func68, Try.ntmps68
  go_wp2
  go_ret
  exact ⟨by first | rfl | (simp; done) | (simp [*]; done), by repeat (first | exact Drawn0.refl _ | apply Drawn0.step)⟩
 ·rw [if_neg c4] at H
  have c4b0 : decide (a1 ≤ a0) = false := decide_eq_false c4
  clear c4
  obtain rfl := Option.some.inj H
  go_enter Try.func68, Try.ntmps68
  go_wp2
  go_ret
  exact ⟨by first | rfl | (simp; done) | (simp [*]; done), by repeat (first | exact Drawn0.refl _ | apply Drawn0.step)⟩

end Go.Proofs.Ytadhfpbkanobnaa.U
