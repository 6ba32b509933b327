-- WRITTEN by wip/ext.py
import Derived.Test.YtdllommmccgleaaYx0
namespace Go.Proofs.Ytdllommmccgleaa.Y
open Go.RowKit Go.Proofs.YtdllommmccgleaaW.PrintWords Go.Proofs.YtdllommmccgleaaW.PrintLast Go.Proofs.YtdllommmccgleaaW.PrintMore
attribute [local go_sem] max2_int min2_int max_two min_two max_three min_three max_four min_four   -- for this text's walks alone
set_option linter.unusedVariables false
set_option linter.unusedSimpArgs false

/-! ### slices_Index_string_string: function 81 -/
def slices_Index_string_string.l0 : Nat → List ByteArray → ByteArray → Int → Int → Option (Int)
 | 0, _, _, _, _ => none
 | k + 1, x0, x1, x7, x8 => if x8 < x7 then (if 0 ≤ x8 then (if x8 < (x0.length : Int) then (if x1.toList = (rdOf ByteArray.empty x0 x8).toList then (some x8) else (slices_Index_string_string.l0 k x0 x1 x7 (wrap64 (x8 + 1)))) else (none)) else (none)) else (some (-1))
def slices_Index_string_string.f (k : Nat) (l0 : List ByteArray) (a1 : ByteArray) : Option (Int) := slices_Index_string_string.l0 k l0 a1 (l0.length : Int) 0
theorem slices_Index_string_string.mono_l : ∀ k, (∀ y0 y1 y2 y3, LeO (slices_Index_string_string.l0 k y0 y1 y2 y3) (slices_Index_string_string.l0 (k + 1) y0 y1 y2 y3))
 | 0 => fun _ _ _ _ r h => by simp [slices_Index_string_string.l0] at h
 | k + 1 => by
  have ih0 := slices_Index_string_string.mono_l k
  ·intro y0 y1 y2 y3
   unfold slices_Index_string_string.l0
   repeat' first
   | (with_reducible exact ih0 _ _ _ _)
   | (with_reducible exact LeO.refl _)
   | (with_reducible exact LeO.none _)
   | (with_reducible refine LeO.ite ?_ ?_)
   | (with_reducible refine LeO.bind ?_ (fun _ => ?_))
   | refine LeO.ite ?_ ?_
   | refine LeO.bind ?_ (fun _ => ?_)
theorem slices_Index_string_string.mono : ∀ a0 a1 k, LeO (slices_Index_string_string.f k a0 a1) (slices_Index_string_string.f (k + 1) a0 a1) := by
 intro a0 a1 k
 have ih0 := slices_Index_string_string.mono_l k
 unfold slices_Index_string_string.f
 repeat' first
   | (with_reducible exact ih0 _ _ _ _)
   | (with_reducible exact LeO.refl _)
   | (with_reducible exact LeO.none _)
   | (with_reducible refine LeO.ite ?_ ?_)
   | (with_reducible refine LeO.bind ?_ (fun _ => ?_))
   | refine LeO.ite ?_ ?_
   | refine LeO.bind ?_ (fun _ => ?_)
set_option maxHeartbeats 8000000 in
set_option maxRecDepth 100000 in
theorem slices_Index_string_string.calls (k : Nat) (A0 : Option Addr) (c0 : Nat) (l0 : List ByteArray) (a1 : ByteArray) (r : Int) (w : World) (hr0 : Kd.C Kd.string w A0 l0.length l0) (hc0 : l0.length ≤ c0) (h : slices_Index_string_string.f k l0 a1 = some r) :
  Calls Try.prog 81 #[.slice A0 l0.length c0, .string a1] w fun e w' => e = .returned (.int .i64 r) ∧ Drawn0 w w' := by
 have HR0 := Aside0.mk hr0; have HC0 := Aside0.mk hc0; clear hr0 hc0
 have H : (slices_Index_string_string.l0 k l0 a1 (l0.length : Int) 0) = some r := h
 clear h; have H' := Aside0.mk H; clear H
 go_enter Try.func81, Try.ntmps81
 go_wp2
 go_loopg [8] k (fun kq v8 w' => ∃ (x8_1 : Int), v8 = .int .i64 x8_1 ∧ Aside0 (slices_Index_string_string.l0 kq l0 a1 (l0.length : Int) x8_1 = some r) ∧ Aside0 (kq ≤ k) ∧ Drawn0 w w')
 case atStart => exact ⟨(0), (by first | rfl | (simp; done) | (simp [*]; done)), H', ⟨Nat.le_refl _⟩, by repeat (first | exact Drawn0.refl _ | apply Drawn0.step)⟩
 case round =>
  clear H'; try clear p2
  obtain ⟨x8_1, rfl, HA, HK1, ⟨m1, rfl⟩⟩ := hrel
  cases gk with
  | zero => exact absurd HA.out (by simp [slices_Index_string_string.l0])
  | succ k1 =>
   have H := HA.out; clear HA
   simp only [slices_Index_string_string.l0] at H
   by_cases c3 : x8_1 < (l0.length : Int)
   ·rw [if_pos c3] at H
    have c3b0 : decide (x8_1 < (l0.length : Int)) = true := decide_eq_true c3
    clear c3
    by_cases c4 : 0 ≤ x8_1
    ·rw [if_pos c4] at H
     have c4b0 : decide (0 ≤ x8_1) = true := decide_eq_true c4
     clear c4
     by_cases c5 : x8_1 < (l0.length : Int)
     ·rw [if_pos c5] at H
      have c5b0 : decide (x8_1 < (l0.length : Int)) = true := decide_eq_true c5
      clear c5
      by_cases c6 : a1.toList = (rdOf ByteArray.empty l0 x8_1).toList
      ·rw [if_pos c6] at H
       have c6b0 : (a1.toList == (rdOf ByteArray.empty l0 x8_1).toList) = true := beq_iff_eq.mpr c6
       have c6b1 : (a1.toList != (rdOf ByteArray.empty l0 x8_1).toList) = false := bne_eq_false_iff_eq.mpr c6
       clear c6
       obtain rfl := Option.some.inj H
       have p180 : 0 ≤ (x8_1 : Int) := of_decide_eq_true (by first | (with_reducible assumption) | assumption)
       have q180 : x8_1 < (l0.length : Int) := of_decide_eq_true (by first | (with_reducible assumption) | assumption)
       obtain ⟨ad180, e180, hx180_0⟩ := Kd.at_string HR0.out x8_1 p180 q180
       cases e180
       replace p180 := eq_true p180
       replace q180 := eq_true q180
       go_wp2
       go_ret
       exact ⟨by first | rfl | (simp; done) | (simp [*]; done), by repeat (first | exact Drawn0.refl _ | apply Drawn0.step)⟩
      ·rw [if_neg c6] at H
       have c6b0 : (a1.toList == (rdOf ByteArray.empty l0 x8_1).toList) = false := beq_eq_false_iff_ne.mpr c6
       have c6b1 : (a1.toList != (rdOf ByteArray.empty l0 x8_1).toList) = true := bne_iff_ne.mpr c6
       have H' := Aside0.mk H; clear H
       have p180 : 0 ≤ (x8_1 : Int) := of_decide_eq_true (by first | (with_reducible assumption) | assumption)
       have q180 : x8_1 < (l0.length : Int) := of_decide_eq_true (by first | (with_reducible assumption) | assumption)
       obtain ⟨ad180, e180, hx180_0⟩ := Kd.at_string HR0.out x8_1 p180 q180
       cases e180
       replace p180 := eq_true p180
       replace q180 := eq_true q180
       go_wp2
       go_roundg k1
       case measure => have := HK1.out; omega
       case rel => exact ⟨(wrap64 (x8_1 + 1)), (by first | rfl | (simp; done) | (simp [*]; done)), H', ⟨by have := HK1.out; omega⟩, by repeat (first | exact Drawn0.refl _ | apply Drawn0.step)⟩
     ·rw [if_neg c5] at H
      exact absurd H (by simp)
    ·rw [if_neg c4] at H
     exact absurd H (by simp)
   ·rw [if_neg c3] at H
    have c3b0 : decide (x8_1 < (l0.length : Int)) = false := decide_eq_false c3
    clear c3
    obtain rfl := Option.some.inj H
    go_wp2
    go_ret
    exact ⟨by first | rfl | (simp; done) | (simp [*]; done), by repeat (first | exact Drawn0.refl _ | apply Drawn0.step)⟩

/-! ### slices_Contains_string_string: function 64 -/
def slices_Contains_string_string.f (k : Nat) (l0 : List ByteArray) (a1 : ByteArray) : Option (Bool) := (slices_Index_string_string.f k l0 a1).bind fun t181 => (some (decide (t181 ≥ 0)))
theorem slices_Contains_string_string.mono : ∀ a0 a1 k, LeO (slices_Contains_string_string.f k a0 a1) (slices_Contains_string_string.f (k + 1) a0 a1) := by
 intro a0 a1 k
 unfold slices_Contains_string_string.f
 repeat' first
   | (with_reducible exact slices_Index_string_string.mono _ _ _)
   | (with_reducible exact LeO.refl _)
   | (with_reducible exact LeO.none _)
   | (with_reducible refine LeO.ite ?_ ?_)
   | (with_reducible refine LeO.bind ?_ (fun _ => ?_))
   | refine LeO.ite ?_ ?_
   | refine LeO.bind ?_ (fun _ => ?_)
set_option maxHeartbeats 8000000 in
set_option maxRecDepth 100000 in
theorem slices_Contains_string_string.calls (k : Nat) (A0 : Option Addr) (c0 : Nat) (l0 : List ByteArray) (a1 : ByteArray) (r : Bool) (w : World) (hr0 : Kd.C Kd.string w A0 l0.length l0) (hc0 : l0.length ≤ c0) (h : slices_Contains_string_string.f k l0 a1 = some r) :
  Calls Try.prog 64 #[.slice A0 l0.length c0, .string a1] w fun e w' => e = .returned (.bool r) ∧ Drawn0 w w' := by
 have HR0 := Aside0.mk hr0; have HC0 := Aside0.mk hc0; clear hr0 hc0
 have H : ((slices_Index_string_string.f k l0 a1).bind fun t181 => (some (decide (t181 ≥ 0)))) = some r := h
 clear h
 replace H := Option.bind_eq_some_iff.mp H
 obtain ⟨t181, A30, H⟩ := H
 replace H : (some (decide (t181 ≥ 0))) = some r := H
 have A3 := Aside0.mk A30; clear A30
 obtain rfl := Option.some.inj H
 go_enter Try.func64, Try.ntmps64
 go_wp2_with (first | ((with_reducible refine gate_callee (f := 81) rfl ?_); refine goesL_ (some 7) rfl rfl Try.func81 (by kernel_rfl) rfl #[.slice A0 l0.length c0, .string a1] rfl (by (try simp only [List.map_toArray, List.map_cons, List.map_nil]); first | done | rfl) ?_; (with_reducible refine (slices_Index_string_string.calls k _ _ l0 a1 t181 _ ?side1 ?side2 A3.out).mono ?_); (case side1 => repeat (first | exact HR0.out | with_reducible first | apply Kd.C_alloc | apply Kd.C_drewN | apply Kd.C_drew)); (case side2 => exact HC0.out); rintro e w' ⟨rfl, ⟨nd, rfl⟩⟩; refine ⟨_, rfl, ?_⟩))
 go_ret
 exact ⟨by first | rfl | (simp; done) | (simp [*]; done), by repeat (first | exact Drawn0.refl _ | apply Drawn0.step)⟩

/-! ### impl_expr_atoms: function 47 -/
/-! #### (impl.expr).atoms: it calls itself over its kids, and appends to a row of the caller's -/
def impl_expr_atoms.go (F : ByteArray → List S55 → List ByteArray → Option (List ByteArray)) : List S55 → List ByteArray → Option (List ByteArray)
 | [], l => some l
 | x :: t, l => (F x.f0 x.f1 l).bind fun l1 => impl_expr_atoms.go F t l1
def impl_expr_atoms.f : Nat → ByteArray → List S55 → List ByteArray → Option (List ByteArray)
 | 0, _, _, _ => none
 | k + 1, w, kids, l => if kids.length = 0 then ((slices_Contains_string_string.f k l w).bind fun b => (if b = true then (some l) else (if l.length < 8796093022208 then (some (l ++ [w])) else (none)))) else (impl_expr_atoms.go (impl_expr_atoms.f k) kids l)
theorem impl_expr_atoms.mono_go {F F' : ByteArray → List S55 → List ByteArray → Option (List ByteArray)} (hF : ∀ a b c, LeO (F a b c) (F' a b c)) : ∀ x l, LeO (impl_expr_atoms.go F x l) (impl_expr_atoms.go F' x l)
 | [], _ => LeO.refl _
 | x :: t, l => LeO.bind (hF _ _ _) fun l1 => impl_expr_atoms.mono_go hF t l1
theorem impl_expr_atoms.mono_k : ∀ k a b c, LeO (impl_expr_atoms.f k a b c) (impl_expr_atoms.f (k + 1) a b c)
 | 0, _, _, _ => fun r h => by simp [impl_expr_atoms.f] at h
 | k + 1, a, b, c => by
  have ih := impl_expr_atoms.mono_k k
  unfold impl_expr_atoms.f
  exact LeO.ite (LeO.bind (slices_Contains_string_string.mono _ _ _) fun _ => LeO.refl _) (impl_expr_atoms.mono_go ih _ _)
theorem impl_expr_atoms.mono : ∀ a0 a1 a2 k, LeO (impl_expr_atoms.f k a0 a1 a2) (impl_expr_atoms.f (k + 1) a0 a1 a2) := fun a0 a1 a2 k => impl_expr_atoms.mono_k k a0 a1 a2
/-- A row of a tree that stays read whatever happens to the blocks of P: its elements' cells, and their own rows, stay, too. -/
theorem kids_stable {w : World} {P : Nat → Prop} {A : Option Addr} {xs : List S55} (H : ∀ W_, Kept w W_ (fun k_ => P k_) → Kd.C k55 W_ A xs.length xs) (i : Int) (h0 : 0 ≤ i) (h1 : i < (xs.length : Int)) :
  ∃ ad A1 c1, A = some ad ∧ (rd_T55 xs i).f1.length ≤ c1 ∧ ∀ W_, Kept w W_ (fun k_ => P k_) → W_.cell? (ad.add (i.toNat * 2)) = some (.string (rd_T55 xs i).f0) ∧ W_.cell? ⟨(ad.add (i.toNat * 2)).block, (ad.add (i.toNat * 2)).off + 1, none⟩ = some (.slice A1 (rd_T55 xs i).f1.length c1) ∧ Kd.C k55 W_ A1 (rd_T55 xs i).f1.length (rd_T55 xs i).f1 := by
 obtain ⟨ad, A1, c1, rfl, hc0, hc1, hl, hC⟩ := at_T55 (H w (Kept.refl _ _)) i h0 h1
 have hlt : ad.block < w.heap.size := by
  have := World.block_lt_of_cell? w _ hc0
  have e : (ad.add (i.toNat * 2)).block = ad.block := by unfold Addr.add; split <;> rfl
  rwa [e] at this
 have hnP : ¬ P ad.block := by
  intro hP
  have hk : Kept w { w with heap := w.heap.setIfInBounds ad.block (.cells #[] 0 (0, 0)) } (fun k_ => P k_) := by
   refine ⟨by simp, fun j hj hn => ?_⟩
   have hne : ad.block ≠ j := fun e => hn (e ▸ hP)
   simp [Array.getElem?_setIfInBounds_ne hne]
  obtain ⟨ad2, _, _, e2, hc2, _⟩ := at_T55 (H _ hk) i h0 h1
  obtain rfl := Option.some.inj e2
  have e : (ad.add (i.toNat * 2)).block = ad.block := by unfold Addr.add; split <;> rfl
  simp [World.cell?, e, hlt] at hc2
 refine ⟨ad, A1, c1, rfl, hl, fun W_ hk => ?_⟩
 obtain ⟨ad2, A2, c2, e2, hd0, hd1, hl2, hC2⟩ := at_T55 (H W_ hk) i h0 h1
 obtain rfl := Option.some.inj e2
 have hb : W_.heap[ad.block]? = w.heap[ad.block]? := hk.2 _ hlt hnP
 have hq : W_.cell? ⟨(ad.add (i.toNat * 2)).block, (ad.add (i.toNat * 2)).off + 1, none⟩ = some (.slice A1 (rd_T55 xs i).f1.length c1) := cell_kept hc1 hk (by show ¬ P (ad.add (i.toNat * 2)).block; rw [show (ad.add (i.toNat * 2)).block = ad.block by unfold Addr.add; split <;> rfl]; exact hnP)
 have he := hq.symm.trans hd1
 injection he with he
 injection he with ha _ _
 rw [← ha] at hC2
 exact ⟨hd0, hq, hC2⟩
set_option maxHeartbeats 8000000 in
set_option maxRecDepth 100000 in
theorem impl_expr_atoms.calls (k : Nat) : ∀ (a0_0 : ByteArray) (A0_1 : Option Addr) (c0_1 : Nat) (l0_1 : List (S55)) (P1_ : Nat → Prop) (u9000_ : Value) (l1 : List ByteArray) (r : List ByteArray) (w0 w : World) (hB : Below w0.heap.size w0 w) (hr0_1 : ∀ W_, Kept w W_ (fun k_ => P1_ k_) → Kd.C k55 W_ A0_1 l0_1.length l0_1) (hc0_1 : l0_1.length ≤ c0_1) (ho1 : Kd.R Kd.string 9 w w0.heap.size P1_ u9000_ l1) (h : impl_expr_atoms.f k a0_0 l0_1 l1 = some r),
  Calls Try.prog 47 #[.agg #[.string a0_0, .slice A0_1 l0_1.length c0_1], u9000_] w fun e w' => ∃ v0_ : Value, e = .returned (v0_) ∧ Kd.R Kd.string 9 w' w0.heap.size (fun k_ => (P1_ k_ ∨ w.heap.size ≤ k_)) v0_ r ∧ Below w0.heap.size w0 w' ∧ Kept w w' (fun k_ => P1_ k_) := by
 induction k with
 | zero => intro a0_0 A0_1 c0_1 l0_1 P1_ u9000_ l1 r w0 w hB hr0_1 hc0_1 ho1 h; exact absurd h (by simp [impl_expr_atoms.f])
 | succ k ih =>
 intro a0_0 A0_1 c0_1 l0_1 P1_ u9000_ l1 r w0 w hB hr0_1 hc0_1 ho1 h
 simp only [impl_expr_atoms.f] at h
 have HIH := Aside0.mk ih; clear ih
 have HR := Aside0.mk hr0_1; have HBB := Aside0.mk hB
 have HO := Aside0.mk (show Kd.R Kd.string 9 w w0.heap.size (fun k_ => (P1_ k_ ∨ w.heap.size ≤ k_)) u9000_ l1 from Kd.R_mono ho1 (fun k_ hk => (.inl hk)))
 have hmax : (l0_1.length : Int) ≤ 9223372036854775807 := by have := (hr0_1 w (Kept.refl _ _)).2.1; omega
 obtain ⟨Au, cu, eu⟩ := Kd.R_slice ho1
 subst eu
 clear ho1 hr0_1 hc0_1 hB
 by_cases c1 : l0_1.length = 0
 ·rw [if_pos c1] at h
  obtain ⟨b, hb, h2⟩ := Option.bind_eq_some_iff.mp h
  clear h
  have HC := Aside0.mk hb; clear hb
  have c1b : decide (l0_1.length = 0) = true := decide_eq_true c1
  have c1z : ((l0_1.length : Int) == 0) = true := by simp [c1]
  cases b with
  | true =>
   rw [if_pos rfl] at h2
   have HG0 := Aside0.mk (show impl_expr_atoms.go (impl_expr_atoms.f k) (l0_1.drop 0) l1 = some r by (rw [List.eq_nil_of_length_eq_zero c1]; exact h2))
   have HC1 := Aside0.mk c1
   clear h2 c1
   go_enter Try.func47, Try.ntmps47
   go_wp2_with (first | ((with_reducible refine gate_dst (N := 2) rfl ?_); refine box_event ?hg (N := 2) ?hd (cs := #[.string a0_0, .slice A0_1 l0_1.length c0_1]) (t := 55) ?hr ?_; (case hd => rfl); (case hg => rfl); (case hr => first | (go_simp; done) | (go_simp; rfl)); intro g2 hg w1 hbox hb; have h20 : w1.cell? ⟨g2, 0, none⟩ = some (.string a0_0) := (blk_cell hbox 0).trans rfl; have h21 : w1.cell? ⟨g2, 1, none⟩ = some (.slice A0_1 l0_1.length c0_1) := (blk_cell hbox 1).trans rfl; have HB1 := Aside0.mk hb; clear hbox hb hg) | (go_at_call 64; refine (slices_Contains_string_string.calls k _ _ l1 a0_0 true _ ?side1 ?side2 HC.out).mono ?_; (case side1 => exact (Kd.R_reads' (Kd.R_below HO.out HB1.out)).2.2); (case side2 => exact (Kd.R_reads' HO.out).2.1); rintro e w' ⟨rfl, ⟨nd, rfl⟩⟩))
   go_loopg [1, 26] l0_1.length (fun gg v1 v26 wr => ∃ (kk : Nat) (l : List ByteArray) (A : Option Addr) (c : Nat), kk ≤ l0_1.length ∧ l0_1.length - kk ≤ gg ∧ v26 = .int .i64 kk ∧ v1 = .slice A l.length c ∧ Aside0 (impl_expr_atoms.go (impl_expr_atoms.f k) (l0_1.drop kk) l = some r) ∧ Aside0 (Kd.R Kd.string 9 wr w0.heap.size (fun k_ => (P1_ k_ ∨ w.heap.size ≤ k_)) (.slice A l.length c) l) ∧ Aside0 (Below w0.heap.size w0 wr) ∧ Aside0 (Kept w wr (fun k_ => P1_ k_)))
   case atStart => exact ⟨0, l1, Au, cu, Nat.zero_le _, by omega, rfl, rfl, HG0, ⟨by (with_reducible repeat first | apply Kd.R_alloc | apply Kd.R_drewN | apply Kd.R_drew); exact Kd.R_below HO.out HB1.out⟩, ⟨by (with_reducible repeat (first | apply pw_below_drewN | apply below_drew1)); exact below_step HBB.out HB1.out⟩, ⟨by (with_reducible repeat (first | apply Kept.drewN | apply Kept.drew)); exact Kept.below (Kept.refl w _) HB1.out⟩⟩
   case round =>
    clear HG0
    obtain ⟨kk, l, A, c, hkk, hgg, rfl, rfl, HG, HL, HBw, HK⟩ := hrel
    by_cases hlt : kk < l0_1.length
    ·have hltz : (kk : Int) < (l0_1.length : Int) := by omega
     have h0z : (0 : Int) ≤ (kk : Int) := by omega
     obtain ⟨ad, A1, c1, eA, hl1, hst⟩ := kids_stable HR.out (kk : Int) h0z hltz
     subst eA
     rw [Int.toNat_natCast] at hst
     have hd : l0_1.drop kk = rd_T55 l0_1 (kk : Int) :: l0_1.drop (kk + 1) := by
      rw [List.drop_eq_getElem_cons hlt]
      simp [rd_T55, List.getD_eq_getElem?_getD, List.getElem?_eq_getElem hlt]
     have hf := HG.out
     rw [hd] at hf
     clear HG hd
     generalize hy : rd_T55 l0_1 (kk : Int) = x at hl1 hst hf
     clear hy
     obtain ⟨l2, hl2, hrest⟩ := Option.bind_eq_some_iff.mp (show ((impl_expr_atoms.f k x.f0 x.f1 l).bind fun l1 => impl_expr_atoms.go (impl_expr_atoms.f k) (l0_1.drop (kk + 1)) l1) = some r from hf)
     have H2 := Aside0.mk hl2
     have H3 := Aside0.mk hrest
     have HST := Aside0.mk hst
     have HL1 := Aside0.mk hl1
     obtain ⟨hx0, hx1, _⟩ := hst wr HK.out
     clear hf hl2 hrest hst hl1
     go_wp2_with (first
      | ((with_reducible refine gate_dst (N := 6) rfl ?_); refine box_event ?hg (N := 6) ?hd (cs := #[.string (⟨#[]⟩ : ByteArray), .slice none 0 0]) (t := 55) ?hr ?_; (case hd => rfl); (case hg => rfl); (case hr => first | (go_simp; done) | (go_simp; rfl)); intro g6 hg w4 hbox hb; have HL4 := Aside0.mk (Kd.R_below (Kd.R_elderB HL.out g6 (Nat.le_of_eq hg.symm)) hb); have HB4 := Aside0.mk (below_step HBw.out hb); have HK4 := Aside0.mk (Kept.below HK.out hb); have GE6 := Aside0.mk (show w0.heap.size ≤ g6 by (rw [hg]; exact HBw.out.size)); have GW6 := Aside0.mk (show w.heap.size ≤ g6 by (rw [hg]; exact HK.out.1)); have i60 : w4.cell? ⟨g6, 0, none⟩ = some (.string (⟨#[]⟩ : ByteArray)) := (blk_cell hbox 0).trans rfl; have i61 : w4.cell? ⟨g6, 1, none⟩ = some (.slice none 0 0) := (blk_cell hbox 1).trans rfl; have j60 := blk_frozen hbox 0; have j61 := blk_frozen hbox 1; clear hbox hb hg)
      | (go_at_call 47; refine (HIH.out x.f0 A1 c1 x.f1 (fun k_ => P1_ k_ ∨ w.heap.size ≤ k_) (.slice A l.length c) l l2 w0 _ ?sB ?sR HL1.out ?sO H2.out).mono ?_; (case sB => exact below_set (below_set HB4.out GE6.out) GE6.out); (case sR => exact fun W_ hk => (HST.out W_ (Kept.then_ (Kept.setCell (Kept.setCell HK4.out (p := ⟨g6, 0, none⟩) (.inr GW6.out) _) (p := ⟨g6, 1, none⟩) (.inr GW6.out) _) hk (fun _ h => h))).2.2); (case sO => exact Kd.R_mono (Kd.R_far (p := ⟨g6, 1, none⟩) (Kd.R_far (p := ⟨g6, 0, none⟩) HL4.out (fun _ hk => hk.2) _) (fun _ hk => hk.2) _) (fun _ hk => hk.1)); rintro e w7 ⟨v7, rfl, ho7, hb7, hk7⟩; have HK7 := Aside0.mk (Kept.then_ (Kept.setCell (Kept.setCell HK4.out (p := ⟨g6, 0, none⟩) (.inr GW6.out) _) (p := ⟨g6, 1, none⟩) (.inr GW6.out) _) hk7 (fun _ h => h)); have HL7 := Aside0.mk (Kd.R_mono ho7 (ok' := fun k_ => (P1_ k_ ∨ w.heap.size ≤ k_)) (fun k_ hk => hk.elim (fun h_ => h_) (fun h_ => .inr (Nat.le_trans (Kept.setCell (Kept.setCell HK4.out (p := ⟨g6, 0, none⟩) (.inr GW6.out) _) (p := ⟨g6, 1, none⟩) (.inr GW6.out) _).1 h_)))); have HB7 := Aside0.mk hb7; clear ho7 hb7 hk7; obtain ⟨A7, c7, ev7⟩ := Kd.R_slice HL7.out; subst ev7))
     go_roundg (l0_1.length - (kk + 1))
     case measure => omega
     case rel => exact ⟨kk + 1, l2, A7, c7, by omega, by omega, by go_num, rfl, H3, HL7, HB7, HK7⟩
    ·have hltz : ¬ (kk : Int) < (l0_1.length : Int) := by omega
     have hf := HG.out
     rw [List.drop_of_length_le (by omega), impl_expr_atoms.go] at hf
     obtain rfl := Option.some.inj hf
     clear hf HG
     go_wp2
     go_ret
     exact ⟨_, rfl, HL.out, HBw.out, HK.out⟩
  | false =>
   rw [if_neg (by decide)] at h2
   by_cases cl : l1.length < 8796093022208
   ·rw [if_pos cl] at h2
    have HE := Aside0.mk (Option.some.inj h2)
    have HC1 := Aside0.mk c1
    have LM := Aside0.mk cl
    clear h2 c1 cl
    go_enter Try.func47, Try.ntmps47
    go_wp2_with (first | ((with_reducible refine gate_dst (N := 2) rfl ?_); refine box_event ?hg (N := 2) ?hd (cs := #[.string a0_0, .slice A0_1 l0_1.length c0_1]) (t := 55) ?hr ?_; (case hd => rfl); (case hg => rfl); (case hr => first | (go_simp; done) | (go_simp; rfl)); intro g2 hg w1 hbox hb; have h20 : w1.cell? ⟨g2, 0, none⟩ = some (.string a0_0) := (blk_cell hbox 0).trans rfl; have h21 : w1.cell? ⟨g2, 1, none⟩ = some (.slice A0_1 l0_1.length c0_1) := (blk_cell hbox 1).trans rfl; have HB1 := Aside0.mk hb; clear hbox hb hg) | (go_at_call 64; refine (slices_Contains_string_string.calls k _ _ l1 a0_0 false _ ?side1 ?side2 HC.out).mono ?_; (case side1 => exact (Kd.R_reads' (Kd.R_below HO.out HB1.out)).2.2); (case side2 => exact (Kd.R_reads' HO.out).2.1); rintro e w' ⟨rfl, ⟨nd, rfl⟩⟩) | ((with_reducible refine gate_builtin (b := .append) (xs := #[.tmp 18, .tmp 21]) rfl ?_); at_builtin; refine Kd.R_append Kd.string (w0 := w0) w0.heap.size rfl (.tmp 18) (.tmp 21) 23 9 (.string ⟨#[]⟩) 16 rfl Try.underlying23 info9 rfl (by decide) (by omega) (.slice Au l1.length cu) l1 a0_0 [.string a0_0] (fun k_ => (P1_ k_ ∨ w.heap.size ≤ k_)) (fun _ => False) rfl rfl ?aP (fun _ hk => hk.elim) ?aF ?aO ?aB ?aS ?aL ?_; (case aP => exact rfl); (case aB => exact pw_below_drewN (below_step HBB.out HB1.out) _); (case aF => exact (fun k_ hk => .inr (Nat.le_trans HB1.out.size hk))); (case aO => exact Kd.R_drewN (Kd.R_below HO.out HB1.out) _); (case aS => exact (below_step HBB.out HB1.out).size); (case aL => have := LM.out; omega); intro v107 w8 ho hb hg hat; have HO8 := Aside0.mk ho; have HB8 := Aside0.mk hb; have HK8 := Aside0.mk (Kept.of_grown (S := (fun k_ => P1_ k_)) hg (Kept.drewN (Kept.below (Kept.refl w _) HB1.out) _) (fun k_ e_ => (HO.out.1 k_ e_))); clear ho hb hg hat))
    go_ret
    exact ⟨_, rfl, by rw [← HE.out]; exact HO8.out, HB8.out, HK8.out⟩
   ·rw [if_neg cl] at h2
    cases h2
 ·rw [if_neg c1] at h
  have HG0 := Aside0.mk (show impl_expr_atoms.go (impl_expr_atoms.f k) (l0_1.drop 0) l1 = some r from h)
  have c1z : ((l0_1.length : Int) == 0) = false := by simp [c1]
  have c1b : decide (l0_1.length = 0) = false := decide_eq_false c1
  clear h
  go_enter Try.func47, Try.ntmps47
  go_wp2_with (first | ((with_reducible refine gate_dst (N := 2) rfl ?_); refine box_event ?hg (N := 2) ?hd (cs := #[.string a0_0, .slice A0_1 l0_1.length c0_1]) (t := 55) ?hr ?_; (case hd => rfl); (case hg => rfl); (case hr => first | (go_simp; done) | (go_simp; rfl)); intro g2 hg w1 hbox hb; have h20 : w1.cell? ⟨g2, 0, none⟩ = some (.string a0_0) := (blk_cell hbox 0).trans rfl; have h21 : w1.cell? ⟨g2, 1, none⟩ = some (.slice A0_1 l0_1.length c0_1) := (blk_cell hbox 1).trans rfl; have HB1 := Aside0.mk hb; clear hbox hb hg))
  go_loopg [1, 26] l0_1.length (fun gg v1 v26 wr => ∃ (kk : Nat) (l : List ByteArray) (A : Option Addr) (c : Nat), kk ≤ l0_1.length ∧ l0_1.length - kk ≤ gg ∧ v26 = .int .i64 kk ∧ v1 = .slice A l.length c ∧ Aside0 (impl_expr_atoms.go (impl_expr_atoms.f k) (l0_1.drop kk) l = some r) ∧ Aside0 (Kd.R Kd.string 9 wr w0.heap.size (fun k_ => (P1_ k_ ∨ w.heap.size ≤ k_)) (.slice A l.length c) l) ∧ Aside0 (Below w0.heap.size w0 wr) ∧ Aside0 (Kept w wr (fun k_ => P1_ k_)))
  case atStart => exact ⟨0, l1, Au, cu, Nat.zero_le _, by omega, rfl, rfl, HG0, ⟨by (with_reducible repeat first | apply Kd.R_alloc | apply Kd.R_drewN | apply Kd.R_drew); exact Kd.R_below HO.out HB1.out⟩, ⟨by (with_reducible repeat (first | apply pw_below_drewN | apply below_drew1)); exact below_step HBB.out HB1.out⟩, ⟨by (with_reducible repeat (first | apply Kept.drewN | apply Kept.drew)); exact Kept.below (Kept.refl w _) HB1.out⟩⟩
  case round =>
   clear HG0
   obtain ⟨kk, l, A, c, hkk, hgg, rfl, rfl, HG, HL, HBw, HK⟩ := hrel
   by_cases hlt : kk < l0_1.length
   ·have hltz : (kk : Int) < (l0_1.length : Int) := by omega
    have h0z : (0 : Int) ≤ (kk : Int) := by omega
    obtain ⟨ad, A1, c1, eA, hl1, hst⟩ := kids_stable HR.out (kk : Int) h0z hltz
    subst eA
    rw [Int.toNat_natCast] at hst
    have hd : l0_1.drop kk = rd_T55 l0_1 (kk : Int) :: l0_1.drop (kk + 1) := by
     rw [List.drop_eq_getElem_cons hlt]
     simp [rd_T55, List.getD_eq_getElem?_getD, List.getElem?_eq_getElem hlt]
    have hf := HG.out
    rw [hd] at hf
    clear HG hd
    generalize hy : rd_T55 l0_1 (kk : Int) = x at hl1 hst hf
    clear hy
    obtain ⟨l2, hl2, hrest⟩ := Option.bind_eq_some_iff.mp (show ((impl_expr_atoms.f k x.f0 x.f1 l).bind fun l1 => impl_expr_atoms.go (impl_expr_atoms.f k) (l0_1.drop (kk + 1)) l1) = some r from hf)
    have H2 := Aside0.mk hl2
    have H3 := Aside0.mk hrest
    have HST := Aside0.mk hst
    have HL1 := Aside0.mk hl1
    obtain ⟨hx0, hx1, _⟩ := hst wr HK.out
    clear hf hl2 hrest hst hl1
    go_wp2_with (first
     | ((with_reducible refine gate_dst (N := 6) rfl ?_); refine box_event ?hg (N := 6) ?hd (cs := #[.string (⟨#[]⟩ : ByteArray), .slice none 0 0]) (t := 55) ?hr ?_; (case hd => rfl); (case hg => rfl); (case hr => first | (go_simp; done) | (go_simp; rfl)); intro g6 hg w4 hbox hb; have HL4 := Aside0.mk (Kd.R_below (Kd.R_elderB HL.out g6 (Nat.le_of_eq hg.symm)) hb); have HB4 := Aside0.mk (below_step HBw.out hb); have HK4 := Aside0.mk (Kept.below HK.out hb); have GE6 := Aside0.mk (show w0.heap.size ≤ g6 by (rw [hg]; exact HBw.out.size)); have GW6 := Aside0.mk (show w.heap.size ≤ g6 by (rw [hg]; exact HK.out.1)); have i60 : w4.cell? ⟨g6, 0, none⟩ = some (.string (⟨#[]⟩ : ByteArray)) := (blk_cell hbox 0).trans rfl; have i61 : w4.cell? ⟨g6, 1, none⟩ = some (.slice none 0 0) := (blk_cell hbox 1).trans rfl; have j60 := blk_frozen hbox 0; have j61 := blk_frozen hbox 1; clear hbox hb hg)
     | (go_at_call 47; refine (HIH.out x.f0 A1 c1 x.f1 (fun k_ => P1_ k_ ∨ w.heap.size ≤ k_) (.slice A l.length c) l l2 w0 _ ?sB ?sR HL1.out ?sO H2.out).mono ?_; (case sB => exact below_set (below_set HB4.out GE6.out) GE6.out); (case sR => exact fun W_ hk => (HST.out W_ (Kept.then_ (Kept.setCell (Kept.setCell HK4.out (p := ⟨g6, 0, none⟩) (.inr GW6.out) _) (p := ⟨g6, 1, none⟩) (.inr GW6.out) _) hk (fun _ h => h))).2.2); (case sO => exact Kd.R_mono (Kd.R_far (p := ⟨g6, 1, none⟩) (Kd.R_far (p := ⟨g6, 0, none⟩) HL4.out (fun _ hk => hk.2) _) (fun _ hk => hk.2) _) (fun _ hk => hk.1)); rintro e w7 ⟨v7, rfl, ho7, hb7, hk7⟩; have HK7 := Aside0.mk (Kept.then_ (Kept.setCell (Kept.setCell HK4.out (p := ⟨g6, 0, none⟩) (.inr GW6.out) _) (p := ⟨g6, 1, none⟩) (.inr GW6.out) _) hk7 (fun _ h => h)); have HL7 := Aside0.mk (Kd.R_mono ho7 (ok' := fun k_ => (P1_ k_ ∨ w.heap.size ≤ k_)) (fun k_ hk => hk.elim (fun h_ => h_) (fun h_ => .inr (Nat.le_trans (Kept.setCell (Kept.setCell HK4.out (p := ⟨g6, 0, none⟩) (.inr GW6.out) _) (p := ⟨g6, 1, none⟩) (.inr GW6.out) _).1 h_)))); have HB7 := Aside0.mk hb7; clear ho7 hb7 hk7; obtain ⟨A7, c7, ev7⟩ := Kd.R_slice HL7.out; subst ev7))
    go_roundg (l0_1.length - (kk + 1))
    case measure => omega
    case rel => exact ⟨kk + 1, l2, A7, c7, by omega, by omega, by go_num, rfl, H3, HL7, HB7, HK7⟩
   ·have hltz : ¬ (kk : Int) < (l0_1.length : Int) := by omega
    have hf := HG.out
    rw [List.drop_of_length_le (by omega), impl_expr_atoms.go] at hf
    obtain rfl := Option.some.inj hf
    clear hf HG
    go_wp2
    go_ret
    exact ⟨_, rfl, HL.out, HBw.out, HK.out⟩

/-! ### impl_expr_holds: function 48 -/
def impl_expr_holds.f : Nat → ByteArray → List (S55) → ByteArray → List ByteArray → Option (Bool)
 | 0, _, _, _, _ => none
 | k + 1, a0_0, l0_1, a1, l2 => if a0_0.toList = ([110, 111, 116] : List UInt8) then (if 0 < (l0_1.length : Int) then ((impl_expr_holds.f k ((rd_T55 l0_1 0).f0) ((rd_T55 l0_1 0).f1) a1 l2).bind fun t184 => (some (!t184))) else (none)) else (if a0_0.toList = ([97, 110, 100] : List UInt8) then (if 0 < (l0_1.length : Int) then ((impl_expr_holds.f k ((rd_T55 l0_1 0).f0) ((rd_T55 l0_1 0).f1) a1 l2).bind fun t186 => (if t186 = true then (if 1 < (l0_1.length : Int) then ((impl_expr_holds.f k ((rd_T55 l0_1 1).f0) ((rd_T55 l0_1 1).f1) a1 l2).bind fun t188 => (some t188)) else (none)) else (some false))) else (none)) else (if a0_0.toList = ([111, 114] : List UInt8) then (if 0 < (l0_1.length : Int) then ((impl_expr_holds.f k ((rd_T55 l0_1 0).f0) ((rd_T55 l0_1 0).f1) a1 l2).bind fun t190 => (if t190 = true then (some true) else (if 1 < (l0_1.length : Int) then ((impl_expr_holds.f k ((rd_T55 l0_1 1).f0) ((rd_T55 l0_1 1).f1) a1 l2).bind fun t192 => (some t192)) else (none)))) else (none)) else (if 0 < (a0_0.size : Int) then (if (bt a0_0 0) = 64 then (if 1 ≤ (a0_0.size : Int) then (some ((a0_0.extract 1 a0_0.size).toList == a1.toList)) else (none)) else ((slices_Contains_string_string.f k l2 a0_0).bind fun t193 => (some t193))) else (none))))
theorem impl_expr_holds.mono_l : ∀ k, (∀ y0 y1 y2 y3, LeO (impl_expr_holds.f k y0 y1 y2 y3) (impl_expr_holds.f (k + 1) y0 y1 y2 y3))
 | 0 => fun _ _ _ _ r h => by simp [impl_expr_holds.f] at h
 | k + 1 => by
  have ih0 := impl_expr_holds.mono_l k
  ·intro y0 y1 y2 y3
   unfold impl_expr_holds.f
   repeat' first
   | (with_reducible exact ih0 _ _ _ _)
   | (with_reducible exact slices_Contains_string_string.mono _ _ _)
   | (with_reducible exact LeO.refl _)
   | (with_reducible exact LeO.none _)
   | (with_reducible refine LeO.ite ?_ ?_)
   | (with_reducible refine LeO.bind ?_ (fun _ => ?_))
   | refine LeO.ite ?_ ?_
   | refine LeO.bind ?_ (fun _ => ?_)
theorem impl_expr_holds.mono : ∀ a0 a1 a2 a3 k, LeO (impl_expr_holds.f k a0 a1 a2 a3) (impl_expr_holds.f (k + 1) a0 a1 a2 a3) := by
 intro a0 a1 a2 a3 k
 have ih0 := impl_expr_holds.mono_l k
 exact ih0 a0 a1 a2 a3
set_option maxHeartbeats 8000000 in
set_option maxRecDepth 100000 in
theorem impl_expr_holds.calls (k : Nat) : ∀ (a0_0 : ByteArray) (A0_1 : Option Addr) (c0_1 : Nat) (l0_1 : List (S55)) (a1 : ByteArray) (A2 : Option Addr) (c2 : Nat) (l2 : List ByteArray) (r : Bool) (w : World) (hr0_1 : Kd.C k55 w A0_1 l0_1.length l0_1) (hc0_1 : l0_1.length ≤ c0_1) (hr2 : Kd.C Kd.string w A2 l2.length l2) (hc2 : l2.length ≤ c2) (h : impl_expr_holds.f k a0_0 l0_1 a1 l2 = some r),
  Calls Try.prog 48 #[.agg #[.string a0_0, .slice A0_1 l0_1.length c0_1], .string a1, .slice A2 l2.length c2] w fun e w' => e = .returned (.bool r) ∧ Below w.heap.size w w' := by
 induction k using Nat.strongRecOn with
 | _ k ih =>
 intro a0_0 A0_1 c0_1 l0_1 a1 A2 c2 l2 r w hr0_1 hc0_1 hr2 hc2 h
 cases k with
 | zero => exact absurd h (by simp [impl_expr_holds.f])
 | succ k =>
 simp only [impl_expr_holds.f] at h
 have hu55 := Try.underlying55; have HR0_1 := Aside0.mk hr0_1; have HC0_1 := Aside0.mk hc0_1; clear hr0_1 hc0_1; have HR2 := Aside0.mk hr2; have HC2 := Aside0.mk hc2; clear hr2 hc2; have HB := Aside0.mk (Below.refl w.heap.size w)
 have H : (if a0_0.toList = ([110, 111, 116] : List UInt8) then (if 0 < (l0_1.length : Int) then ((impl_expr_holds.f k ((rd_T55 l0_1 0).f0) ((rd_T55 l0_1 0).f1) a1 l2).bind fun t184 => (some (!t184))) else (none)) else (if a0_0.toList = ([97, 110, 100] : List UInt8) then (if 0 < (l0_1.length : Int) then ((impl_expr_holds.f k ((rd_T55 l0_1 0).f0) ((rd_T55 l0_1 0).f1) a1 l2).bind fun t186 => (if t186 = true then (if 1 < (l0_1.length : Int) then ((impl_expr_holds.f k ((rd_T55 l0_1 1).f0) ((rd_T55 l0_1 1).f1) a1 l2).bind fun t188 => (some t188)) else (none)) else (some false))) else (none)) else (if a0_0.toList = ([111, 114] : List UInt8) then (if 0 < (l0_1.length : Int) then ((impl_expr_holds.f k ((rd_T55 l0_1 0).f0) ((rd_T55 l0_1 0).f1) a1 l2).bind fun t190 => (if t190 = true then (some true) else (if 1 < (l0_1.length : Int) then ((impl_expr_holds.f k ((rd_T55 l0_1 1).f0) ((rd_T55 l0_1 1).f1) a1 l2).bind fun t192 => (some t192)) else (none)))) else (none)) else (if 0 < (a0_0.size : Int) then (if (bt a0_0 0) = 64 then (if 1 ≤ (a0_0.size : Int) then (some ((a0_0.extract 1 a0_0.size).toList == a1.toList)) else (none)) else ((slices_Contains_string_string.f k l2 a0_0).bind fun t193 => (some t193))) else (none))))) = some r := h
 clear h
 by_cases c4 : a0_0.toList = ([110, 111, 116] : List UInt8)
 ·rw [if_pos c4] at H
  have c4b0 : (a0_0.toList == ([110, 111, 116] : List UInt8)) = true := beq_iff_eq.mpr c4
  have c4b1 : (a0_0.toList != ([110, 111, 116] : List UInt8)) = false := bne_eq_false_iff_eq.mpr c4
  clear c4
  by_cases c5 : 0 < (l0_1.length : Int)
  ·rw [if_pos c5] at H
   have c5b0 : decide (0 < (l0_1.length : Int)) = true := decide_eq_true c5
   have c5b1 : decide (0 < l0_1.length) = true := decide_eq_true (by omega)
   clear c5
   replace H := Option.bind_eq_some_iff.mp H
   obtain ⟨t184, A60, H⟩ := H
   replace H : (some (!t184)) = some r := H
   have A6 := Aside0.mk A60; clear A60
   obtain rfl := Option.some.inj H
   go_enter Try.func48, Try.ntmps48
   go_wp2_with (first | ((with_reducible refine gate_dst (N := 3) rfl ?_); refine box_event ?hg (N := 3) ?hd (cs := #[.string a0_0, .slice A0_1 l0_1.length c0_1]) (t := 55) ?hr ?_; (case hd => rfl); (case hg => rfl); (case hr => first | (go_simp; done) | (go_simp; rfl)); intro gb182 hg w7 hbox hb; have BK182 := Aside0.mk (hbox); have GW182 := Aside0.mk ((by rw [hg]; exact (below_size (by repeat first | (with_reducible first | exact HB.out | apply below_alloc | apply pw_below_drewN | apply below_drew1) | exact HB.out)) : w.heap.size ≤ gb182)); have GE182 := Aside0.mk ((by rw [hg]; exact (below_size (by repeat first | (with_reducible first | exact HB.out | apply below_alloc | apply pw_below_drewN | apply below_drew1) | exact HB.out)) : w.heap.size ≤ gb182)); replace HB := Aside0.mk (below_step (by repeat first | (with_reducible first | exact HB.out | apply below_alloc | apply pw_below_drewN | apply below_drew1) | exact HB.out) hb); clear hb hbox hg; have hcz8_0 : w7.cell? ⟨gb182, 0, none⟩ = some (.string a0_0) := (blk_cell BK182.out 0).trans rfl; have hcz8_1 : w7.cell? ⟨gb182, 1, none⟩ = some (.slice A0_1 l0_1.length c0_1) := (blk_cell BK182.out 1).trans rfl; have hfz8_0 := blk_frozen BK182.out 0; have hfz8_1 := blk_frozen BK182.out 1; have p183 : 0 ≤ (0 : Int) := (by omega); have q183 : 0 < (l0_1.length : Int) := of_decide_eq_true (by first | (with_reducible assumption) | assumption); obtain ⟨ad183, A183_1, c183_1, e183, hx183_0, hx183_1, hl183_1, hi183_1⟩ := at_T55 HR0_1.out 0 p183 q183; cases e183; have qi183 : (0 < l0_1.length) = True := eq_true (by omega); (try rw [show ((0 : Int)).toNat = 0 from rfl] at hx183_0); (try rw [show 0 * 2 = 0 from rfl] at hx183_0); (try rw [Addr.add_zero'] at hx183_0); (try rw [show ((0 : Int)).toNat = 0 from rfl] at hx183_1); (try rw [show 0 * 2 = 0 from rfl] at hx183_1); (try rw [Addr.add_zero'] at hx183_1); replace hx183_0 := (HB.out.cell (World.block_lt_of_cell? w _ hx183_0)).trans hx183_0; replace hx183_1 := (HB.out.cell (World.block_lt_of_cell? w _ hx183_1)).trans hx183_1; have HR183_1 := Aside0.mk hi183_1; have HC183_1 := Aside0.mk hl183_1; clear hi183_1 hl183_1; replace p183 := eq_true p183; replace q183 := eq_true q183) | ((with_reducible refine gate_callee (f := 48) rfl ?_); refine goesL_ (some 17) rfl rfl Try.func48 (by kernel_rfl) rfl #[.agg #[.string ((rd_T55 l0_1 0).f0), .slice A183_1 ((rd_T55 l0_1 0).f1).length c183_1], .string a1, .slice A2 l2.length c2] rfl (by (try simp only [List.map_toArray, List.map_cons, List.map_nil]); first | done | rfl) ?_; (with_reducible refine (ih k (by omega) ((rd_T55 l0_1 0).f0) _ _ ((rd_T55 l0_1 0).f1) a1 _ _ l2 t184 _ ?side1 ?side2 ?side3 ?side4 A6.out).mono ?_); (case side1 => repeat (first | exact (Kd.C_below HR183_1.out HB.out) | with_reducible first | apply Kd.C_alloc | apply Kd.C_drewN | apply Kd.C_drew)); (case side2 => exact HC183_1.out); (case side3 => repeat (first | exact (Kd.C_below HR2.out HB.out) | with_reducible first | apply Kd.C_alloc | apply Kd.C_drewN | apply Kd.C_drew)); (case side4 => exact HC2.out); rintro e w9 ⟨rfl, hb⟩; refine ⟨_, rfl, ?_⟩; replace BK182 := Aside0.mk (blk_below (g := gb182) (o := .cells #[.string a0_0, .slice (some ad183) l0_1.length c0_1] 55 (0, 0)) (by (with_reducible repeat first | apply blk_drewN | apply blk_drew | apply blk_alloc); exact BK182.out) hb); replace HB := Aside0.mk (below_step (by repeat first | (with_reducible first | exact HB.out | apply below_alloc | apply pw_below_drewN | apply below_drew1 | refine below_set ?_ GE182.out) | exact HB.out) hb); (try clear hb)))
   go_ret
   exact ⟨by first | rfl | (simp [errW_none, errW_some] <;> rfl) | (simp [*, errW_none, errW_some] <;> rfl), by repeat (first | (with_reducible first | exact HB.out | apply below_alloc | apply pw_below_drewN | apply below_drew1 | refine below_set ?_ GE182.out) | exact HB.out)⟩
  ·rw [if_neg c5] at H
   exact absurd H (by simp)
 ·rw [if_neg c4] at H
  have c4b0 : (a0_0.toList == ([110, 111, 116] : List UInt8)) = false := beq_eq_false_iff_ne.mpr c4
  have c4b1 : (a0_0.toList != ([110, 111, 116] : List UInt8)) = true := bne_iff_ne.mpr c4
  by_cases c10 : a0_0.toList = ([97, 110, 100] : List UInt8)
  ·rw [if_pos c10] at H
   have c10b0 : (a0_0.toList == ([97, 110, 100] : List UInt8)) = true := beq_iff_eq.mpr c10
   have c10b1 : (a0_0.toList != ([97, 110, 100] : List UInt8)) = false := bne_eq_false_iff_eq.mpr c10
   clear c10
   by_cases c11 : 0 < (l0_1.length : Int)
   ·rw [if_pos c11] at H
    have c11b0 : decide (0 < (l0_1.length : Int)) = true := decide_eq_true c11
    have c11b1 : decide (0 < l0_1.length) = true := decide_eq_true (by omega)
    clear c11
    replace H := Option.bind_eq_some_iff.mp H
    obtain ⟨t186, A120, H⟩ := H
    replace H : (if t186 = true then (if 1 < (l0_1.length : Int) then ((impl_expr_holds.f k ((rd_T55 l0_1 1).f0) ((rd_T55 l0_1 1).f1) a1 l2).bind fun t188 => (some t188)) else (none)) else (some false)) = some r := H
    have A12 := Aside0.mk A120; clear A120
    by_cases c13 : t186 = true
    ·subst c13
     have H1 : (if 1 < (l0_1.length : Int) then ((impl_expr_holds.f k ((rd_T55 l0_1 1).f0) ((rd_T55 l0_1 1).f1) a1 l2).bind fun t188 => (some t188)) else (none)) = some r := by rw [if_pos rfl] at H; exact H
     clear H; have H := H1; clear H1
     by_cases c14 : 1 < (l0_1.length : Int)
     ·rw [if_pos c14] at H
      have c14b0 : decide (1 < (l0_1.length : Int)) = true := decide_eq_true c14
      have c14b1 : decide (1 < l0_1.length) = true := decide_eq_true (by omega)
      clear c14
      replace H := Option.bind_eq_some_iff.mp H
      obtain ⟨t188, A150, H⟩ := H
      replace H : (some t188) = some r := H
      have A15 := Aside0.mk A150; clear A150
      obtain rfl := Option.some.inj H
      go_enter Try.func48, Try.ntmps48
      go_wp2_with (first | ((with_reducible refine gate_dst (N := 3) rfl ?_); refine box_event ?hg (N := 3) ?hd (cs := #[.string a0_0, .slice A0_1 l0_1.length c0_1]) (t := 55) ?hr ?_; (case hd => rfl); (case hg => rfl); (case hr => first | (go_simp; done) | (go_simp; rfl)); intro gb182 hg w16 hbox hb; have BK182 := Aside0.mk (hbox); have GW182 := Aside0.mk ((by rw [hg]; exact (below_size (by repeat first | (with_reducible first | exact HB.out | apply below_alloc | apply pw_below_drewN | apply below_drew1) | exact HB.out)) : w.heap.size ≤ gb182)); have GE182 := Aside0.mk ((by rw [hg]; exact (below_size (by repeat first | (with_reducible first | exact HB.out | apply below_alloc | apply pw_below_drewN | apply below_drew1) | exact HB.out)) : w.heap.size ≤ gb182)); replace HB := Aside0.mk (below_step (by repeat first | (with_reducible first | exact HB.out | apply below_alloc | apply pw_below_drewN | apply below_drew1) | exact HB.out) hb); clear hb hbox hg; have hcz17_0 : w16.cell? ⟨gb182, 0, none⟩ = some (.string a0_0) := (blk_cell BK182.out 0).trans rfl; have hcz17_1 : w16.cell? ⟨gb182, 1, none⟩ = some (.slice A0_1 l0_1.length c0_1) := (blk_cell BK182.out 1).trans rfl; have hfz17_0 := blk_frozen BK182.out 0; have hfz17_1 := blk_frozen BK182.out 1; have p185 : 0 ≤ (0 : Int) := (by omega); have q185 : 0 < (l0_1.length : Int) := of_decide_eq_true (by first | (with_reducible assumption) | assumption); obtain ⟨ad185, A185_1, c185_1, e185, hx185_0, hx185_1, hl185_1, hi185_1⟩ := at_T55 HR0_1.out 0 p185 q185; cases e185; have qi185 : (0 < l0_1.length) = True := eq_true (by omega); (try rw [show ((0 : Int)).toNat = 0 from rfl] at hx185_0); (try rw [show 0 * 2 = 0 from rfl] at hx185_0); (try rw [Addr.add_zero'] at hx185_0); (try rw [show ((0 : Int)).toNat = 0 from rfl] at hx185_1); (try rw [show 0 * 2 = 0 from rfl] at hx185_1); (try rw [Addr.add_zero'] at hx185_1); replace hx185_0 := (HB.out.cell (World.block_lt_of_cell? w _ hx185_0)).trans hx185_0; replace hx185_1 := (HB.out.cell (World.block_lt_of_cell? w _ hx185_1)).trans hx185_1; have HR185_1 := Aside0.mk hi185_1; have HC185_1 := Aside0.mk hl185_1; clear hi185_1 hl185_1; replace p185 := eq_true p185; replace q185 := eq_true q185) | ((with_reducible refine gate_callee (f := 48) rfl ?_); refine goesL_ (some 27) rfl rfl Try.func48 (by kernel_rfl) rfl #[.agg #[.string ((rd_T55 l0_1 0).f0), .slice A185_1 ((rd_T55 l0_1 0).f1).length c185_1], .string a1, .slice A2 l2.length c2] rfl (by (try simp only [List.map_toArray, List.map_cons, List.map_nil]); first | done | rfl) ?_; (with_reducible refine (ih k (by omega) ((rd_T55 l0_1 0).f0) _ _ ((rd_T55 l0_1 0).f1) a1 _ _ l2 true _ ?side1 ?side2 ?side3 ?side4 A12.out).mono ?_); (case side1 => repeat (first | exact (Kd.C_below HR185_1.out HB.out) | with_reducible first | apply Kd.C_alloc | apply Kd.C_drewN | apply Kd.C_drew)); (case side2 => exact HC185_1.out); (case side3 => repeat (first | exact (Kd.C_below HR2.out HB.out) | with_reducible first | apply Kd.C_alloc | apply Kd.C_drewN | apply Kd.C_drew)); (case side4 => exact HC2.out); rintro e w18 ⟨rfl, hb⟩; refine ⟨_, rfl, ?_⟩; replace BK182 := Aside0.mk (blk_below (g := gb182) (o := .cells #[.string a0_0, .slice (some ad185) l0_1.length c0_1] 55 (0, 0)) (by (with_reducible repeat first | apply blk_drewN | apply blk_drew | apply blk_alloc); exact BK182.out) hb); replace HB := Aside0.mk (below_step (by repeat first | (with_reducible first | exact HB.out | apply below_alloc | apply pw_below_drewN | apply below_drew1 | refine below_set ?_ GE182.out) | exact HB.out) hb); (try clear hb); have hcz19_0 : w18.cell? ⟨gb182, 0, none⟩ = some (.string a0_0) := (blk_cell BK182.out 0).trans rfl; have hcz19_1 : w18.cell? ⟨gb182, 1, none⟩ = some (.slice (some ad185) l0_1.length c0_1) := (blk_cell BK182.out 1).trans rfl; have hfz19_0 := blk_frozen BK182.out 0; have hfz19_1 := blk_frozen BK182.out 1; have p187 : 0 ≤ (1 : Int) := (by omega); have q187 : 1 < (l0_1.length : Int) := of_decide_eq_true (by first | (with_reducible assumption) | assumption); obtain ⟨ad187, A187_1, c187_1, e187, hx187_0, hx187_1, hl187_1, hi187_1⟩ := at_T55 HR0_1.out 1 p187 q187; obtain rfl : ad185 = ad187 := (by injection e187); (try simp only [show (1 : Int).toNat = 1 from rfl, Nat.reduceMul, Nat.reduceEqDiff, Go.Addr.add, ↓reduceIte] at hx187_0); (try simp only [show (1 : Int).toNat = 1 from rfl, Nat.reduceMul, Nat.reduceEqDiff, Go.Addr.add, ↓reduceIte] at hx187_1); have qi187 : (1 < l0_1.length) = True := eq_true (by omega); (try rw [show ((1 : Int)).toNat = 1 from rfl] at hx187_0); (try rw [show 1 * 2 = 2 from rfl] at hx187_0); (try rw [show ((1 : Int)).toNat = 1 from rfl] at hx187_1); (try rw [show 1 * 2 = 2 from rfl] at hx187_1); replace hx187_0 := (HB.out.cell (World.block_lt_of_cell? w _ hx187_0)).trans hx187_0; replace hx187_1 := (HB.out.cell (World.block_lt_of_cell? w _ hx187_1)).trans hx187_1; have HR187_1 := Aside0.mk hi187_1; have HC187_1 := Aside0.mk hl187_1; clear hi187_1 hl187_1; replace p187 := eq_true p187; replace q187 := eq_true q187) | (go_at_call 48; (with_reducible refine (ih k (by omega) ((rd_T55 l0_1 1).f0) _ _ ((rd_T55 l0_1 1).f1) a1 _ _ l2 t188 _ ?side1 ?side2 ?side3 ?side4 A15.out).mono ?_); (case side1 => repeat (first | exact (Kd.C_below HR187_1.out HB.out) | with_reducible first | apply Kd.C_alloc | apply Kd.C_drewN | apply Kd.C_drew)); (case side2 => exact HC187_1.out); (case side3 => repeat (first | exact (Kd.C_below HR2.out HB.out) | with_reducible first | apply Kd.C_alloc | apply Kd.C_drewN | apply Kd.C_drew)); (case side4 => exact HC2.out); rintro e w20 ⟨rfl, hb⟩; replace BK182 := Aside0.mk (blk_below (g := gb182) (o := .cells #[.string a0_0, .slice (some ad185) l0_1.length c0_1] 55 (0, 0)) (by (with_reducible repeat first | apply blk_drewN | apply blk_drew | apply blk_alloc); exact BK182.out) hb); replace HB := Aside0.mk (below_step (by repeat first | (with_reducible first | exact HB.out | apply below_alloc | apply pw_below_drewN | apply below_drew1 | refine below_set ?_ GE182.out) | exact HB.out) hb); (try clear hb)))
      go_ret
      exact ⟨by first | rfl | (simp [errW_none, errW_some] <;> rfl) | (simp [*, errW_none, errW_some] <;> rfl), by repeat (first | (with_reducible first | exact HB.out | apply below_alloc | apply pw_below_drewN | apply below_drew1 | refine below_set ?_ GE182.out) | exact HB.out)⟩
     ·rw [if_neg c14] at H
      exact absurd H (by simp)
    ·replace c13 := Bool.eq_false_iff.mpr c13
     subst c13
     have H1 : (some false) = some r := by rw [if_neg (show ¬ (false = true) by decide)] at H; exact H
     clear H; have H := H1; clear H1
     obtain rfl := Option.some.inj H
     go_enter Try.func48, Try.ntmps48
     go_wp2_with (first | ((with_reducible refine gate_dst (N := 3) rfl ?_); refine box_event ?hg (N := 3) ?hd (cs := #[.string a0_0, .slice A0_1 l0_1.length c0_1]) (t := 55) ?hr ?_; (case hd => rfl); (case hg => rfl); (case hr => first | (go_simp; done) | (go_simp; rfl)); intro gb182 hg w21 hbox hb; have BK182 := Aside0.mk (hbox); have GW182 := Aside0.mk ((by rw [hg]; exact (below_size (by repeat first | (with_reducible first | exact HB.out | apply below_alloc | apply pw_below_drewN | apply below_drew1) | exact HB.out)) : w.heap.size ≤ gb182)); have GE182 := Aside0.mk ((by rw [hg]; exact (below_size (by repeat first | (with_reducible first | exact HB.out | apply below_alloc | apply pw_below_drewN | apply below_drew1) | exact HB.out)) : w.heap.size ≤ gb182)); replace HB := Aside0.mk (below_step (by repeat first | (with_reducible first | exact HB.out | apply below_alloc | apply pw_below_drewN | apply below_drew1) | exact HB.out) hb); clear hb hbox hg; have hcz22_0 : w21.cell? ⟨gb182, 0, none⟩ = some (.string a0_0) := (blk_cell BK182.out 0).trans rfl; have hcz22_1 : w21.cell? ⟨gb182, 1, none⟩ = some (.slice A0_1 l0_1.length c0_1) := (blk_cell BK182.out 1).trans rfl; have hfz22_0 := blk_frozen BK182.out 0; have hfz22_1 := blk_frozen BK182.out 1; have p185 : 0 ≤ (0 : Int) := (by omega); have q185 : 0 < (l0_1.length : Int) := of_decide_eq_true (by first | (with_reducible assumption) | assumption); obtain ⟨ad185, A185_1, c185_1, e185, hx185_0, hx185_1, hl185_1, hi185_1⟩ := at_T55 HR0_1.out 0 p185 q185; cases e185; have qi185 : (0 < l0_1.length) = True := eq_true (by omega); (try rw [show ((0 : Int)).toNat = 0 from rfl] at hx185_0); (try rw [show 0 * 2 = 0 from rfl] at hx185_0); (try rw [Addr.add_zero'] at hx185_0); (try rw [show ((0 : Int)).toNat = 0 from rfl] at hx185_1); (try rw [show 0 * 2 = 0 from rfl] at hx185_1); (try rw [Addr.add_zero'] at hx185_1); replace hx185_0 := (HB.out.cell (World.block_lt_of_cell? w _ hx185_0)).trans hx185_0; replace hx185_1 := (HB.out.cell (World.block_lt_of_cell? w _ hx185_1)).trans hx185_1; have HR185_1 := Aside0.mk hi185_1; have HC185_1 := Aside0.mk hl185_1; clear hi185_1 hl185_1; replace p185 := eq_true p185; replace q185 := eq_true q185) | ((with_reducible refine gate_callee (f := 48) rfl ?_); refine goesL_ (some 27) rfl rfl Try.func48 (by kernel_rfl) rfl #[.agg #[.string ((rd_T55 l0_1 0).f0), .slice A185_1 ((rd_T55 l0_1 0).f1).length c185_1], .string a1, .slice A2 l2.length c2] rfl (by (try simp only [List.map_toArray, List.map_cons, List.map_nil]); first | done | rfl) ?_; (with_reducible refine (ih k (by omega) ((rd_T55 l0_1 0).f0) _ _ ((rd_T55 l0_1 0).f1) a1 _ _ l2 false _ ?side1 ?side2 ?side3 ?side4 A12.out).mono ?_); (case side1 => repeat (first | exact (Kd.C_below HR185_1.out HB.out) | with_reducible first | apply Kd.C_alloc | apply Kd.C_drewN | apply Kd.C_drew)); (case side2 => exact HC185_1.out); (case side3 => repeat (first | exact (Kd.C_below HR2.out HB.out) | with_reducible first | apply Kd.C_alloc | apply Kd.C_drewN | apply Kd.C_drew)); (case side4 => exact HC2.out); rintro e w23 ⟨rfl, hb⟩; refine ⟨_, rfl, ?_⟩; replace BK182 := Aside0.mk (blk_below (g := gb182) (o := .cells #[.string a0_0, .slice (some ad185) l0_1.length c0_1] 55 (0, 0)) (by (with_reducible repeat first | apply blk_drewN | apply blk_drew | apply blk_alloc); exact BK182.out) hb); replace HB := Aside0.mk (below_step (by repeat first | (with_reducible first | exact HB.out | apply below_alloc | apply pw_below_drewN | apply below_drew1 | refine below_set ?_ GE182.out) | exact HB.out) hb); (try clear hb)))
     go_ret
     exact ⟨by first | rfl | (simp [errW_none, errW_some] <;> rfl) | (simp [*, errW_none, errW_some] <;> rfl), by repeat (first | (with_reducible first | exact HB.out | apply below_alloc | apply pw_below_drewN | apply below_drew1 | refine below_set ?_ GE182.out) | exact HB.out)⟩
   ·rw [if_neg c11] at H
    exact absurd H (by simp)
  ·rw [if_neg c10] at H
   have c10b0 : (a0_0.toList == ([97, 110, 100] : List UInt8)) = false := beq_eq_false_iff_ne.mpr c10
   have c10b1 : (a0_0.toList != ([97, 110, 100] : List UInt8)) = true := bne_iff_ne.mpr c10
   by_cases c24 : a0_0.toList = ([111, 114] : List UInt8)
   ·rw [if_pos c24] at H
    have c24b0 : (a0_0.toList == ([111, 114] : List UInt8)) = true := beq_iff_eq.mpr c24
    have c24b1 : (a0_0.toList != ([111, 114] : List UInt8)) = false := bne_eq_false_iff_eq.mpr c24
    clear c24
    by_cases c25 : 0 < (l0_1.length : Int)
    ·rw [if_pos c25] at H
     have c25b0 : decide (0 < (l0_1.length : Int)) = true := decide_eq_true c25
     have c25b1 : decide (0 < l0_1.length) = true := decide_eq_true (by omega)
     clear c25
     replace H := Option.bind_eq_some_iff.mp H
     obtain ⟨t190, A260, H⟩ := H
     replace H : (if t190 = true then (some true) else (if 1 < (l0_1.length : Int) then ((impl_expr_holds.f k ((rd_T55 l0_1 1).f0) ((rd_T55 l0_1 1).f1) a1 l2).bind fun t192 => (some t192)) else (none))) = some r := H
     have A26 := Aside0.mk A260; clear A260
     by_cases c27 : t190 = true
     ·subst c27
      have H1 : (some true) = some r := by rw [if_pos rfl] at H; exact H
      clear H; have H := H1; clear H1
      obtain rfl := Option.some.inj H
      go_enter Try.func48, Try.ntmps48
      go_wp2_with (first | ((with_reducible refine gate_dst (N := 3) rfl ?_); refine box_event ?hg (N := 3) ?hd (cs := #[.string a0_0, .slice A0_1 l0_1.length c0_1]) (t := 55) ?hr ?_; (case hd => rfl); (case hg => rfl); (case hr => first | (go_simp; done) | (go_simp; rfl)); intro gb182 hg w28 hbox hb; have BK182 := Aside0.mk (hbox); have GW182 := Aside0.mk ((by rw [hg]; exact (below_size (by repeat first | (with_reducible first | exact HB.out | apply below_alloc | apply pw_below_drewN | apply below_drew1) | exact HB.out)) : w.heap.size ≤ gb182)); have GE182 := Aside0.mk ((by rw [hg]; exact (below_size (by repeat first | (with_reducible first | exact HB.out | apply below_alloc | apply pw_below_drewN | apply below_drew1) | exact HB.out)) : w.heap.size ≤ gb182)); replace HB := Aside0.mk (below_step (by repeat first | (with_reducible first | exact HB.out | apply below_alloc | apply pw_below_drewN | apply below_drew1) | exact HB.out) hb); clear hb hbox hg; have hcz29_0 : w28.cell? ⟨gb182, 0, none⟩ = some (.string a0_0) := (blk_cell BK182.out 0).trans rfl; have hcz29_1 : w28.cell? ⟨gb182, 1, none⟩ = some (.slice A0_1 l0_1.length c0_1) := (blk_cell BK182.out 1).trans rfl; have hfz29_0 := blk_frozen BK182.out 0; have hfz29_1 := blk_frozen BK182.out 1; have p189 : 0 ≤ (0 : Int) := (by omega); have q189 : 0 < (l0_1.length : Int) := of_decide_eq_true (by first | (with_reducible assumption) | assumption); obtain ⟨ad189, A189_1, c189_1, e189, hx189_0, hx189_1, hl189_1, hi189_1⟩ := at_T55 HR0_1.out 0 p189 q189; cases e189; have qi189 : (0 < l0_1.length) = True := eq_true (by omega); (try rw [show ((0 : Int)).toNat = 0 from rfl] at hx189_0); (try rw [show 0 * 2 = 0 from rfl] at hx189_0); (try rw [Addr.add_zero'] at hx189_0); (try rw [show ((0 : Int)).toNat = 0 from rfl] at hx189_1); (try rw [show 0 * 2 = 0 from rfl] at hx189_1); (try rw [Addr.add_zero'] at hx189_1); replace hx189_0 := (HB.out.cell (World.block_lt_of_cell? w _ hx189_0)).trans hx189_0; replace hx189_1 := (HB.out.cell (World.block_lt_of_cell? w _ hx189_1)).trans hx189_1; have HR189_1 := Aside0.mk hi189_1; have HC189_1 := Aside0.mk hl189_1; clear hi189_1 hl189_1; replace p189 := eq_true p189; replace q189 := eq_true q189) | ((with_reducible refine gate_callee (f := 48) rfl ?_); refine goesL_ (some 45) rfl rfl Try.func48 (by kernel_rfl) rfl #[.agg #[.string ((rd_T55 l0_1 0).f0), .slice A189_1 ((rd_T55 l0_1 0).f1).length c189_1], .string a1, .slice A2 l2.length c2] rfl (by (try simp only [List.map_toArray, List.map_cons, List.map_nil]); first | done | rfl) ?_; (with_reducible refine (ih k (by omega) ((rd_T55 l0_1 0).f0) _ _ ((rd_T55 l0_1 0).f1) a1 _ _ l2 true _ ?side1 ?side2 ?side3 ?side4 A26.out).mono ?_); (case side1 => repeat (first | exact (Kd.C_below HR189_1.out HB.out) | with_reducible first | apply Kd.C_alloc | apply Kd.C_drewN | apply Kd.C_drew)); (case side2 => exact HC189_1.out); (case side3 => repeat (first | exact (Kd.C_below HR2.out HB.out) | with_reducible first | apply Kd.C_alloc | apply Kd.C_drewN | apply Kd.C_drew)); (case side4 => exact HC2.out); rintro e w30 ⟨rfl, hb⟩; refine ⟨_, rfl, ?_⟩; replace BK182 := Aside0.mk (blk_below (g := gb182) (o := .cells #[.string a0_0, .slice (some ad189) l0_1.length c0_1] 55 (0, 0)) (by (with_reducible repeat first | apply blk_drewN | apply blk_drew | apply blk_alloc); exact BK182.out) hb); replace HB := Aside0.mk (below_step (by repeat first | (with_reducible first | exact HB.out | apply below_alloc | apply pw_below_drewN | apply below_drew1 | refine below_set ?_ GE182.out) | exact HB.out) hb); (try clear hb)))
      go_ret
      exact ⟨by first | rfl | (simp [errW_none, errW_some] <;> rfl) | (simp [*, errW_none, errW_some] <;> rfl), by repeat (first | (with_reducible first | exact HB.out | apply below_alloc | apply pw_below_drewN | apply below_drew1 | refine below_set ?_ GE182.out) | exact HB.out)⟩
     ·replace c27 := Bool.eq_false_iff.mpr c27
      subst c27
      have H1 : (if 1 < (l0_1.length : Int) then ((impl_expr_holds.f k ((rd_T55 l0_1 1).f0) ((rd_T55 l0_1 1).f1) a1 l2).bind fun t192 => (some t192)) else (none)) = some r := by rw [if_neg (show ¬ (false = true) by decide)] at H; exact H
      clear H; have H := H1; clear H1
      by_cases c31 : 1 < (l0_1.length : Int)
      ·rw [if_pos c31] at H
       have c31b0 : decide (1 < (l0_1.length : Int)) = true := decide_eq_true c31
       have c31b1 : decide (1 < l0_1.length) = true := decide_eq_true (by omega)
       clear c31
       replace H := Option.bind_eq_some_iff.mp H
       obtain ⟨t192, A320, H⟩ := H
       replace H : (some t192) = some r := H
       have A32 := Aside0.mk A320; clear A320
       obtain rfl := Option.some.inj H
       go_enter Try.func48, Try.ntmps48
       go_wp2_with (first | ((with_reducible refine gate_dst (N := 3) rfl ?_); refine box_event ?hg (N := 3) ?hd (cs := #[.string a0_0, .slice A0_1 l0_1.length c0_1]) (t := 55) ?hr ?_; (case hd => rfl); (case hg => rfl); (case hr => first | (go_simp; done) | (go_simp; rfl)); intro gb182 hg w33 hbox hb; have BK182 := Aside0.mk (hbox); have GW182 := Aside0.mk ((by rw [hg]; exact (below_size (by repeat first | (with_reducible first | exact HB.out | apply below_alloc | apply pw_below_drewN | apply below_drew1) | exact HB.out)) : w.heap.size ≤ gb182)); have GE182 := Aside0.mk ((by rw [hg]; exact (below_size (by repeat first | (with_reducible first | exact HB.out | apply below_alloc | apply pw_below_drewN | apply below_drew1) | exact HB.out)) : w.heap.size ≤ gb182)); replace HB := Aside0.mk (below_step (by repeat first | (with_reducible first | exact HB.out | apply below_alloc | apply pw_below_drewN | apply below_drew1) | exact HB.out) hb); clear hb hbox hg; have hcz34_0 : w33.cell? ⟨gb182, 0, none⟩ = some (.string a0_0) := (blk_cell BK182.out 0).trans rfl; have hcz34_1 : w33.cell? ⟨gb182, 1, none⟩ = some (.slice A0_1 l0_1.length c0_1) := (blk_cell BK182.out 1).trans rfl; have hfz34_0 := blk_frozen BK182.out 0; have hfz34_1 := blk_frozen BK182.out 1; have p189 : 0 ≤ (0 : Int) := (by omega); have q189 : 0 < (l0_1.length : Int) := of_decide_eq_true (by first | (with_reducible assumption) | assumption); obtain ⟨ad189, A189_1, c189_1, e189, hx189_0, hx189_1, hl189_1, hi189_1⟩ := at_T55 HR0_1.out 0 p189 q189; cases e189; have qi189 : (0 < l0_1.length) = True := eq_true (by omega); (try rw [show ((0 : Int)).toNat = 0 from rfl] at hx189_0); (try rw [show 0 * 2 = 0 from rfl] at hx189_0); (try rw [Addr.add_zero'] at hx189_0); (try rw [show ((0 : Int)).toNat = 0 from rfl] at hx189_1); (try rw [show 0 * 2 = 0 from rfl] at hx189_1); (try rw [Addr.add_zero'] at hx189_1); replace hx189_0 := (HB.out.cell (World.block_lt_of_cell? w _ hx189_0)).trans hx189_0; replace hx189_1 := (HB.out.cell (World.block_lt_of_cell? w _ hx189_1)).trans hx189_1; have HR189_1 := Aside0.mk hi189_1; have HC189_1 := Aside0.mk hl189_1; clear hi189_1 hl189_1; replace p189 := eq_true p189; replace q189 := eq_true q189) | ((with_reducible refine gate_callee (f := 48) rfl ?_); refine goesL_ (some 45) rfl rfl Try.func48 (by kernel_rfl) rfl #[.agg #[.string ((rd_T55 l0_1 0).f0), .slice A189_1 ((rd_T55 l0_1 0).f1).length c189_1], .string a1, .slice A2 l2.length c2] rfl (by (try simp only [List.map_toArray, List.map_cons, List.map_nil]); first | done | rfl) ?_; (with_reducible refine (ih k (by omega) ((rd_T55 l0_1 0).f0) _ _ ((rd_T55 l0_1 0).f1) a1 _ _ l2 false _ ?side1 ?side2 ?side3 ?side4 A26.out).mono ?_); (case side1 => repeat (first | exact (Kd.C_below HR189_1.out HB.out) | with_reducible first | apply Kd.C_alloc | apply Kd.C_drewN | apply Kd.C_drew)); (case side2 => exact HC189_1.out); (case side3 => repeat (first | exact (Kd.C_below HR2.out HB.out) | with_reducible first | apply Kd.C_alloc | apply Kd.C_drewN | apply Kd.C_drew)); (case side4 => exact HC2.out); rintro e w35 ⟨rfl, hb⟩; refine ⟨_, rfl, ?_⟩; replace BK182 := Aside0.mk (blk_below (g := gb182) (o := .cells #[.string a0_0, .slice (some ad189) l0_1.length c0_1] 55 (0, 0)) (by (with_reducible repeat first | apply blk_drewN | apply blk_drew | apply blk_alloc); exact BK182.out) hb); replace HB := Aside0.mk (below_step (by repeat first | (with_reducible first | exact HB.out | apply below_alloc | apply pw_below_drewN | apply below_drew1 | refine below_set ?_ GE182.out) | exact HB.out) hb); (try clear hb); have hcz36_0 : w35.cell? ⟨gb182, 0, none⟩ = some (.string a0_0) := (blk_cell BK182.out 0).trans rfl; have hcz36_1 : w35.cell? ⟨gb182, 1, none⟩ = some (.slice (some ad189) l0_1.length c0_1) := (blk_cell BK182.out 1).trans rfl; have hfz36_0 := blk_frozen BK182.out 0; have hfz36_1 := blk_frozen BK182.out 1; have p191 : 0 ≤ (1 : Int) := (by omega); have q191 : 1 < (l0_1.length : Int) := of_decide_eq_true (by first | (with_reducible assumption) | assumption); obtain ⟨ad191, A191_1, c191_1, e191, hx191_0, hx191_1, hl191_1, hi191_1⟩ := at_T55 HR0_1.out 1 p191 q191; obtain rfl : ad189 = ad191 := (by injection e191); (try simp only [show (1 : Int).toNat = 1 from rfl, Nat.reduceMul, Nat.reduceEqDiff, Go.Addr.add, ↓reduceIte] at hx191_0); (try simp only [show (1 : Int).toNat = 1 from rfl, Nat.reduceMul, Nat.reduceEqDiff, Go.Addr.add, ↓reduceIte] at hx191_1); have qi191 : (1 < l0_1.length) = True := eq_true (by omega); (try rw [show ((1 : Int)).toNat = 1 from rfl] at hx191_0); (try rw [show 1 * 2 = 2 from rfl] at hx191_0); (try rw [show ((1 : Int)).toNat = 1 from rfl] at hx191_1); (try rw [show 1 * 2 = 2 from rfl] at hx191_1); replace hx191_0 := (HB.out.cell (World.block_lt_of_cell? w _ hx191_0)).trans hx191_0; replace hx191_1 := (HB.out.cell (World.block_lt_of_cell? w _ hx191_1)).trans hx191_1; have HR191_1 := Aside0.mk hi191_1; have HC191_1 := Aside0.mk hl191_1; clear hi191_1 hl191_1; replace p191 := eq_true p191; replace q191 := eq_true q191) | (go_at_call 48; (with_reducible refine (ih k (by omega) ((rd_T55 l0_1 1).f0) _ _ ((rd_T55 l0_1 1).f1) a1 _ _ l2 t192 _ ?side1 ?side2 ?side3 ?side4 A32.out).mono ?_); (case side1 => repeat (first | exact (Kd.C_below HR191_1.out HB.out) | with_reducible first | apply Kd.C_alloc | apply Kd.C_drewN | apply Kd.C_drew)); (case side2 => exact HC191_1.out); (case side3 => repeat (first | exact (Kd.C_below HR2.out HB.out) | with_reducible first | apply Kd.C_alloc | apply Kd.C_drewN | apply Kd.C_drew)); (case side4 => exact HC2.out); rintro e w37 ⟨rfl, hb⟩; replace BK182 := Aside0.mk (blk_below (g := gb182) (o := .cells #[.string a0_0, .slice (some ad189) l0_1.length c0_1] 55 (0, 0)) (by (with_reducible repeat first | apply blk_drewN | apply blk_drew | apply blk_alloc); exact BK182.out) hb); replace HB := Aside0.mk (below_step (by repeat first | (with_reducible first | exact HB.out | apply below_alloc | apply pw_below_drewN | apply below_drew1 | refine below_set ?_ GE182.out) | exact HB.out) hb); (try clear hb)))
       go_ret
       exact ⟨by first | rfl | (simp [errW_none, errW_some] <;> rfl) | (simp [*, errW_none, errW_some] <;> rfl), by repeat (first | (with_reducible first | exact HB.out | apply below_alloc | apply pw_below_drewN | apply below_drew1 | refine below_set ?_ GE182.out) | exact HB.out)⟩
      ·rw [if_neg c31] at H
       exact absurd H (by simp)
    ·rw [if_neg c25] at H
     exact absurd H (by simp)
   ·rw [if_neg c24] at H
    have c24b0 : (a0_0.toList == ([111, 114] : List UInt8)) = false := beq_eq_false_iff_ne.mpr c24
    have c24b1 : (a0_0.toList != ([111, 114] : List UInt8)) = true := bne_iff_ne.mpr c24
    by_cases c38 : 0 < (a0_0.size : Int)
    ·rw [if_pos c38] at H
     have c38b0 : decide (0 < (a0_0.size : Int)) = true := decide_eq_true c38
     have c38b1 : decide (0 < a0_0.size) = true := decide_eq_true (by omega)
     clear c38
     by_cases c40 : (bt a0_0 0) = 64
     ·rw [if_pos c40] at H
      have c40b0 : ((bt a0_0 0) == 64) = true := beq_iff_eq.mpr c40
      have c40b1 : ((bt a0_0 0) != 64) = false := bne_eq_false_iff_eq.mpr c40
      clear c40
      by_cases c41 : 1 ≤ (a0_0.size : Int)
      ·rw [if_pos c41] at H
       have c41b0 := eq_true c41
       have c41b1 : decide (1 ≤ (a0_0.size : Int)) = true := decide_eq_true c41
       clear c41
       obtain rfl := Option.some.inj H
       go_enter Try.func48, Try.ntmps48
       go_wp2_with (first | ((with_reducible refine gate_dst (N := 3) rfl ?_); refine box_event ?hg (N := 3) ?hd (cs := #[.string a0_0, .slice A0_1 l0_1.length c0_1]) (t := 55) ?hr ?_; (case hd => rfl); (case hg => rfl); (case hr => first | (go_simp; done) | (go_simp; rfl)); intro gb182 hg w42 hbox hb; have BK182 := Aside0.mk (hbox); have GW182 := Aside0.mk ((by rw [hg]; exact (below_size (by repeat first | (with_reducible first | exact HB.out | apply below_alloc | apply pw_below_drewN | apply below_drew1) | exact HB.out)) : w.heap.size ≤ gb182)); have GE182 := Aside0.mk ((by rw [hg]; exact (below_size (by repeat first | (with_reducible first | exact HB.out | apply below_alloc | apply pw_below_drewN | apply below_drew1) | exact HB.out)) : w.heap.size ≤ gb182)); replace HB := Aside0.mk (below_step (by repeat first | (with_reducible first | exact HB.out | apply below_alloc | apply pw_below_drewN | apply below_drew1) | exact HB.out) hb); clear hb hbox hg; have hcz43_0 : w42.cell? ⟨gb182, 0, none⟩ = some (.string a0_0) := (blk_cell BK182.out 0).trans rfl; have hcz43_1 : w42.cell? ⟨gb182, 1, none⟩ = some (.slice A0_1 l0_1.length c0_1) := (blk_cell BK182.out 1).trans rfl; have hfz43_0 := blk_frozen BK182.out 0; have hfz43_1 := blk_frozen BK182.out 1; have p39 : 0 ≤ (0 : Int) := (by omega); have q39 : 0 < a0_0.size := (by have : (0 : Int) < (a0_0.size : Int) := of_decide_eq_true (by first | (with_reducible assumption) | assumption); omega); have hx39 : ∀ h : 0 < a0_0.size, ((a0_0[0]'h).toNat : Int) = bt a0_0 0 := bt_at a0_0 0; clear p39; have qi39 : (0 < (a0_0.size : Int)) = True := eq_true (of_decide_eq_true (by first | (with_reducible assumption) | assumption)); replace q39 := eq_true q39))
       go_ret
       exact ⟨by first | rfl | (simp [errW_none, errW_some] <;> rfl) | (simp [*, errW_none, errW_some] <;> rfl), by repeat (first | (with_reducible first | exact HB.out | apply below_alloc | apply pw_below_drewN | apply below_drew1 | refine below_set ?_ GE182.out) | exact HB.out)⟩
      ·rw [if_neg c41] at H
       exact absurd H (by simp)
     ·rw [if_neg c40] at H
      have c40b0 : ((bt a0_0 0) == 64) = false := beq_eq_false_iff_ne.mpr c40
      have c40b1 : ((bt a0_0 0) != 64) = true := bne_iff_ne.mpr c40
      replace H := Option.bind_eq_some_iff.mp H
      obtain ⟨t193, A440, H⟩ := H
      replace H : (some t193) = some r := H
      have A44 := Aside0.mk A440; clear A440
      obtain rfl := Option.some.inj H
      go_enter Try.func48, Try.ntmps48
      go_wp2_with (first | ((with_reducible refine gate_dst (N := 3) rfl ?_); refine box_event ?hg (N := 3) ?hd (cs := #[.string a0_0, .slice A0_1 l0_1.length c0_1]) (t := 55) ?hr ?_; (case hd => rfl); (case hg => rfl); (case hr => first | (go_simp; done) | (go_simp; rfl)); intro gb182 hg w45 hbox hb; have BK182 := Aside0.mk (hbox); have GW182 := Aside0.mk ((by rw [hg]; exact (below_size (by repeat first | (with_reducible first | exact HB.out | apply below_alloc | apply pw_below_drewN | apply below_drew1) | exact HB.out)) : w.heap.size ≤ gb182)); have GE182 := Aside0.mk ((by rw [hg]; exact (below_size (by repeat first | (with_reducible first | exact HB.out | apply below_alloc | apply pw_below_drewN | apply below_drew1) | exact HB.out)) : w.heap.size ≤ gb182)); replace HB := Aside0.mk (below_step (by repeat first | (with_reducible first | exact HB.out | apply below_alloc | apply pw_below_drewN | apply below_drew1) | exact HB.out) hb); clear hb hbox hg; have hcz46_0 : w45.cell? ⟨gb182, 0, none⟩ = some (.string a0_0) := (blk_cell BK182.out 0).trans rfl; have hcz46_1 : w45.cell? ⟨gb182, 1, none⟩ = some (.slice A0_1 l0_1.length c0_1) := (blk_cell BK182.out 1).trans rfl; have hfz46_0 := blk_frozen BK182.out 0; have hfz46_1 := blk_frozen BK182.out 1; have p39 : 0 ≤ (0 : Int) := (by omega); have q39 : 0 < a0_0.size := (by have : (0 : Int) < (a0_0.size : Int) := of_decide_eq_true (by first | (with_reducible assumption) | assumption); omega); have hx39 : ∀ h : 0 < a0_0.size, ((a0_0[0]'h).toNat : Int) = bt a0_0 0 := bt_at a0_0 0; clear p39; have qi39 : (0 < (a0_0.size : Int)) = True := eq_true (of_decide_eq_true (by first | (with_reducible assumption) | assumption)); replace q39 := eq_true q39) | ((with_reducible refine gate_callee (f := 64) rfl ?_); refine goesL_ (some 67) rfl rfl Try.func64 (by kernel_rfl) rfl #[.slice A2 l2.length c2, .string a0_0] rfl (by (try simp only [List.map_toArray, List.map_cons, List.map_nil]); first | done | rfl) ?_; (with_reducible refine (slices_Contains_string_string.calls k _ _ l2 a0_0 t193 _ ?side1 ?side2 A44.out).mono ?_); (case side1 => repeat (first | exact (Kd.C_below HR2.out HB.out) | with_reducible first | apply Kd.C_alloc | apply Kd.C_drewN | apply Kd.C_drew)); (case side2 => exact HC2.out); rintro e w' ⟨rfl, ⟨nd, rfl⟩⟩; refine ⟨_, rfl, ?_⟩))
      go_ret
      exact ⟨by first | rfl | (simp [errW_none, errW_some] <;> rfl) | (simp [*, errW_none, errW_some] <;> rfl), by repeat (first | (with_reducible first | exact HB.out | apply below_alloc | apply pw_below_drewN | apply below_drew1 | refine below_set ?_ GE182.out) | exact HB.out)⟩
    ·rw [if_neg c38] at H
     exact absurd H (by simp)

end Go.Proofs.Ytdllommmccgleaa.Y
