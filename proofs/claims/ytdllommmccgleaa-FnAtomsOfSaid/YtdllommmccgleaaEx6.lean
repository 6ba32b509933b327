-- WRITTEN by wip/ext.py
import Derived.Test.YtdllommmccgleaaEx0
import Derived.Test.YtdllommmccgleaaEx3
import Derived.Test.YtdllommmccgleaaEx5
namespace Go.Proofs.Ytdllommmccgleaa.E
open Go.RowKit Go.Proofs.YtdllommmccgleaaW.PrintWords Go.Proofs.YtdllommmccgleaaW.PrintLast Go.Proofs.YtdllommmccgleaaW.PrintMore
attribute [local go_sem] max2_int min2_int max_two min_two max_three min_three max_four min_four   -- for this text's walks alone
set_option linter.unusedVariables false
set_option linter.unusedSimpArgs false

/-! ### spec_validExpr: function 41 -/
def spec_validExpr.f (k : Nat) (a0 : ByteArray) : Option (Bool) := (spec_evaluate.f k a0 (⟨#[]⟩ : ByteArray) (⟨#[]⟩ : ByteArray) ([] : List ByteArray) ([] : List ByteArray)).bind fun bt103 => (some bt103.2)
theorem spec_validExpr.mono : ∀ a0 k, LeO (spec_validExpr.f k a0) (spec_validExpr.f (k + 1) a0) := by
 intro a0 k
 unfold spec_validExpr.f
 repeat' first
   | (with_reducible exact spec_evaluate.mono _ _ _ _ _ _)
   | (with_reducible exact LeO.refl _)
   | (with_reducible exact LeO.none _)
   | (with_reducible refine LeO.ite ?_ ?_)
   | (with_reducible refine LeO.bind ?_ (fun _ => ?_))
   | refine LeO.ite ?_ ?_
   | refine LeO.bind ?_ (fun _ => ?_)
set_option maxHeartbeats 8000000 in
set_option maxRecDepth 100000 in
theorem spec_validExpr.calls (k : Nat) (a0 : ByteArray) (r : Bool) (w : World) (h : spec_validExpr.f k a0 = some r) :
  Calls Try.prog 41 #[.string a0] w fun e w' => e = .returned (.bool r) ∧ Below w.heap.size w w' := by
 have hu28 := Try.underlying28; have HB := Aside0.mk (Below.refl w.heap.size w)
 have H : ((spec_evaluate.f k a0 (⟨#[]⟩ : ByteArray) (⟨#[]⟩ : ByteArray) ([] : List ByteArray) ([] : List ByteArray)).bind fun bt103 => (some bt103.2)) = some r := h
 clear h
 replace H := Option.bind_eq_some_iff.mp H
 obtain ⟨⟨t103, t104⟩, A20, H⟩ := H
 replace H : (some t104) = some r := H
 have A2 := Aside0.mk A20; clear A20
 obtain rfl := Option.some.inj H
 go_enter Try.func41, Try.ntmps41
 go_wp2_with (first | ((with_reducible refine gate_callee (f := 45) rfl ?_); refine goesL_ (some 8) rfl rfl Try.func45 (by kernel_rfl) rfl #[.string a0, .agg #[.string (⟨#[]⟩ : ByteArray), .string (⟨#[]⟩ : ByteArray), .slice none 0 0, .slice none 0 0]] rfl (by (try simp only [List.map_toArray, List.map_cons, List.map_nil]); first | done | rfl) ?_; (refine (spec_evaluate.calls k a0 (⟨#[]⟩ : ByteArray) (⟨#[]⟩ : ByteArray) _ _ ([] : List ByteArray) _ _ ([] : List ByteArray) t103 t104 _ ?side1 ?side2 ?side3 ?side4 A2.out).mono ?_); (case side1 => exact Kd.C_nil _ _); (case side2 => exact Nat.le_refl _); (case side3 => exact Kd.C_nil _ _); (case side4 => exact Nat.le_refl _); rintro e w3 ⟨rfl, hb⟩; refine ⟨_, rfl, ?_⟩; replace HB := Aside0.mk (below_step (by repeat first | (with_reducible first | exact HB.out | apply below_alloc | apply pw_below_drewN | apply below_drew1) | exact HB.out) hb); (try clear hb)))
 go_ret
 exact ⟨by first | rfl | (simp [errW_none, errW_some] <;> rfl) | (simp [*, errW_none, errW_some] <;> rfl), by repeat (first | (with_reducible first | exact HB.out | apply below_alloc | apply pw_below_drewN | apply below_drew1) | exact HB.out)⟩

/-! ### impl_expr_atoms: function 47 -/
/-! #### (impl.expr).atoms: it calls itself over its kids, and appends to a row of the caller's -/
def impl_expr_atoms.go (F : ByteArray → List S55 → List ByteArray → Option (List ByteArray)) : List S55 → List ByteArray → Option (List ByteArray)
 | [], l => some l
 | x :: t, l => (F x.f0 x.f1 l).bind fun l1 => impl_expr_atoms.go F t l1
def impl_expr_atoms.f : Nat → ByteArray → List S55 → List ByteArray → Option (List ByteArray)
 | 0, _, _, _ => none
 | k + 1, w, kids, l => if kids.length = 0 then ((slices_Contains_string_string.f k l w).bind fun b => (if b = true then (some l) else (if l.length < 8796093022208 then (some (l ++ [w])) else (none)))) else (impl_expr_atoms.go (impl_expr_atoms.f k) kids l)
theorem impl_expr_atoms.mono_go {F F' : ByteArray → List S55 → List ByteArray → Option (List ByteArray)} (hF : ∀ a b c, LeO (F a b c) (F' a b c)) : ∀ x l, LeO (impl_expr_atoms.go F x l) (impl_expr_atoms.go F' x l)
 | [], _ => LeO.refl _
 | x :: t, l => LeO.bind (hF _ _ _) fun l1 => impl_expr_atoms.mono_go hF t l1
theorem impl_expr_atoms.mono_k : ∀ k a b c, LeO (impl_expr_atoms.f k a b c) (impl_expr_atoms.f (k + 1) a b c)
 | 0, _, _, _ => fun r h => by simp [impl_expr_atoms.f] at h
 | k + 1, a, b, c => by
  have ih := impl_expr_atoms.mono_k k
  unfold impl_expr_atoms.f
  exact LeO.ite (LeO.bind (slices_Contains_string_string.mono _ _ _) fun _ => LeO.refl _) (impl_expr_atoms.mono_go ih _ _)
theorem impl_expr_atoms.mono : ∀ a0 a1 a2 k, LeO (impl_expr_atoms.f k a0 a1 a2) (impl_expr_atoms.f (k + 1) a0 a1 a2) := fun a0 a1 a2 k => impl_expr_atoms.mono_k k a0 a1 a2
/-- A row of a tree that stays read whatever happens to the blocks of P: its elements' cells, and their own rows, stay, too. -/
theorem kids_stable {w : World} {P : Nat → Prop} {A : Option Addr} {xs : List S55} (H : ∀ W_, Kept w W_ (fun k_ => P k_) → Kd.C k55 W_ A xs.length xs) (i : Int) (h0 : 0 ≤ i) (h1 : i < (xs.length : Int)) :
  ∃ ad A1 c1, A = some ad ∧ (rd_T55 xs i).f1.length ≤ c1 ∧ ∀ W_, Kept w W_ (fun k_ => P k_) → W_.cell? (ad.add (i.toNat * 2)) = some (.string (rd_T55 xs i).f0) ∧ W_.cell? ⟨(ad.add (i.toNat * 2)).block, (ad.add (i.toNat * 2)).off + 1, none⟩ = some (.slice A1 (rd_T55 xs i).f1.length c1) ∧ Kd.C k55 W_ A1 (rd_T55 xs i).f1.length (rd_T55 xs i).f1 := by
 obtain ⟨ad, A1, c1, rfl, hc0, hc1, hl, hC⟩ := at_T55 (H w (Kept.refl _ _)) i h0 h1
 have hlt : ad.block < w.heap.size := by
  have := World.block_lt_of_cell? w _ hc0
  have e : (ad.add (i.toNat * 2)).block = ad.block := by unfold Addr.add; split <;> rfl
  rwa [e] at this
 have hnP : ¬ P ad.block := by
  intro hP
  have hk : Kept w { w with heap := w.heap.setIfInBounds ad.block (.cells #[] 0 (0, 0)) } (fun k_ => P k_) := by
   refine ⟨by simp, fun j hj hn => ?_⟩
   have hne : ad.block ≠ j := fun e => hn (e ▸ hP)
   simp [Array.getElem?_setIfInBounds_ne hne]
  obtain ⟨ad2, _, _, e2, hc2, _⟩ := at_T55 (H _ hk) i h0 h1
  obtain rfl := Option.some.inj e2
  have e : (ad.add (i.toNat * 2)).block = ad.block := by unfold Addr.add; split <;> rfl
  simp [World.cell?, e, hlt] at hc2
 refine ⟨ad, A1, c1, rfl, hl, fun W_ hk => ?_⟩
 obtain ⟨ad2, A2, c2, e2, hd0, hd1, hl2, hC2⟩ := at_T55 (H W_ hk) i h0 h1
 obtain rfl := Option.some.inj e2
 have hb : W_.heap[ad.block]? = w.heap[ad.block]? := hk.2 _ hlt hnP
 have hq : W_.cell? ⟨(ad.add (i.toNat * 2)).block, (ad.add (i.toNat * 2)).off + 1, none⟩ = some (.slice A1 (rd_T55 xs i).f1.length c1) := cell_kept hc1 hk (by show ¬ P (ad.add (i.toNat * 2)).block; rw [show (ad.add (i.toNat * 2)).block = ad.block by unfold Addr.add; split <;> rfl]; exact hnP)
 have he := hq.symm.trans hd1
 injection he with he
 injection he with ha _ _
 rw [← ha] at hC2
 exact ⟨hd0, hq, hC2⟩
set_option maxHeartbeats 8000000 in
set_option maxRecDepth 100000 in
theorem impl_expr_atoms.calls (k : Nat) : ∀ (a0_0 : ByteArray) (A0_1 : Option Addr) (c0_1 : Nat) (l0_1 : List (S55)) (P1_ : Nat → Prop) (u9000_ : Value) (l1 : List ByteArray) (r : List ByteArray) (w0 w : World) (hB : Below w0.heap.size w0 w) (hr0_1 : ∀ W_, Kept w W_ (fun k_ => P1_ k_) → Kd.C k55 W_ A0_1 l0_1.length l0_1) (hc0_1 : l0_1.length ≤ c0_1) (ho1 : Kd.R Kd.string 9 w w0.heap.size P1_ u9000_ l1) (h : impl_expr_atoms.f k a0_0 l0_1 l1 = some r),
  Calls Try.prog 47 #[.agg #[.string a0_0, .slice A0_1 l0_1.length c0_1], u9000_] w fun e w' => ∃ v0_ : Value, e = .returned (v0_) ∧ Kd.R Kd.string 9 w' w0.heap.size (fun k_ => (P1_ k_ ∨ w.heap.size ≤ k_)) v0_ r ∧ Below w0.heap.size w0 w' ∧ Kept w w' (fun k_ => P1_ k_) := by
 induction k with
 | zero => intro a0_0 A0_1 c0_1 l0_1 P1_ u9000_ l1 r w0 w hB hr0_1 hc0_1 ho1 h; exact absurd h (by simp [impl_expr_atoms.f])
 | succ k ih =>
 intro a0_0 A0_1 c0_1 l0_1 P1_ u9000_ l1 r w0 w hB hr0_1 hc0_1 ho1 h
 simp only [impl_expr_atoms.f] at h
 have HIH := Aside0.mk ih; clear ih
 have HR := Aside0.mk hr0_1; have HBB := Aside0.mk hB
 have HO := Aside0.mk (show Kd.R Kd.string 9 w w0.heap.size (fun k_ => (P1_ k_ ∨ w.heap.size ≤ k_)) u9000_ l1 from Kd.R_mono ho1 (fun k_ hk => (.inl hk)))
 have hmax : (l0_1.length : Int) ≤ 9223372036854775807 := by have := (hr0_1 w (Kept.refl _ _)).2.1; omega
 obtain ⟨Au, cu, eu⟩ := Kd.R_slice ho1
 subst eu
 clear ho1 hr0_1 hc0_1 hB
 by_cases c1 : l0_1.length = 0
 ·rw [if_pos c1] at h
  obtain ⟨b, hb, h2⟩ := Option.bind_eq_some_iff.mp h
  clear h
  have HC := Aside0.mk hb; clear hb
  have c1b : decide (l0_1.length = 0) = true := decide_eq_true c1
  have c1z : ((l0_1.length : Int) == 0) = true := by simp [c1]
  cases b with
  | true =>
   rw [if_pos rfl] at h2
   have HG0 := Aside0.mk (show impl_expr_atoms.go (impl_expr_atoms.f k) (l0_1.drop 0) l1 = some r by (rw [List.eq_nil_of_length_eq_zero c1]; exact h2))
   have HC1 := Aside0.mk c1
   clear h2 c1
   go_enter Try.func47, Try.ntmps47
   go_wp2_with (first | ((with_reducible refine gate_dst (N := 2) rfl ?_); refine box_event ?hg (N := 2) ?hd (cs := #[.string a0_0, .slice A0_1 l0_1.length c0_1]) (t := 55) ?hr ?_; (case hd => rfl); (case hg => rfl); (case hr => first | (go_simp; done) | (go_simp; rfl)); intro g2 hg w1 hbox hb; have h20 : w1.cell? ⟨g2, 0, none⟩ = some (.string a0_0) := (blk_cell hbox 0).trans rfl; have h21 : w1.cell? ⟨g2, 1, none⟩ = some (.slice A0_1 l0_1.length c0_1) := (blk_cell hbox 1).trans rfl; have HB1 := Aside0.mk hb; clear hbox hb hg) | (go_at_call 64; refine (slices_Contains_string_string.calls k _ _ l1 a0_0 true _ ?side1 ?side2 HC.out).mono ?_; (case side1 => exact (Kd.R_reads' (Kd.R_below HO.out HB1.out)).2.2); (case side2 => exact (Kd.R_reads' HO.out).2.1); rintro e w' ⟨rfl, ⟨nd, rfl⟩⟩))
   go_loopg [1, 26] l0_1.length (fun gg v1 v26 wr => ∃ (kk : Nat) (l : List ByteArray) (A : Option Addr) (c : Nat), kk ≤ l0_1.length ∧ l0_1.length - kk ≤ gg ∧ v26 = .int .i64 kk ∧ v1 = .slice A l.length c ∧ Aside0 (impl_expr_atoms.go (impl_expr_atoms.f k) (l0_1.drop kk) l = some r) ∧ Aside0 (Kd.R Kd.string 9 wr w0.heap.size (fun k_ => (P1_ k_ ∨ w.heap.size ≤ k_)) (.slice A l.length c) l) ∧ Aside0 (Below w0.heap.size w0 wr) ∧ Aside0 (Kept w wr (fun k_ => P1_ k_)))
   case atStart => exact ⟨0, l1, Au, cu, Nat.zero_le _, by omega, rfl, rfl, HG0, ⟨by (with_reducible repeat first | apply Kd.R_alloc | apply Kd.R_drewN | apply Kd.R_drew); exact Kd.R_below HO.out HB1.out⟩, ⟨by (with_reducible repeat (first | apply pw_below_drewN | apply below_drew1)); exact below_step HBB.out HB1.out⟩, ⟨by (with_reducible repeat (first | apply Kept.drewN | apply Kept.drew)); exact Kept.below (Kept.refl w _) HB1.out⟩⟩
   case round =>
    clear HG0
    obtain ⟨kk, l, A, c, hkk, hgg, rfl, rfl, HG, HL, HBw, HK⟩ := hrel
    by_cases hlt : kk < l0_1.length
    ·have hltz : (kk : Int) < (l0_1.length : Int) := by omega
     have h0z : (0 : Int) ≤ (kk : Int) := by omega
     obtain ⟨ad, A1, c1, eA, hl1, hst⟩ := kids_stable HR.out (kk : Int) h0z hltz
     subst eA
     rw [Int.toNat_natCast] at hst
     have hd : l0_1.drop kk = rd_T55 l0_1 (kk : Int) :: l0_1.drop (kk + 1) := by
      rw [List.drop_eq_getElem_cons hlt]
      simp [rd_T55, List.getD_eq_getElem?_getD, List.getElem?_eq_getElem hlt]
     have hf := HG.out
     rw [hd] at hf
     clear HG hd
     generalize hy : rd_T55 l0_1 (kk : Int) = x at hl1 hst hf
     clear hy
     obtain ⟨l2, hl2, hrest⟩ := Option.bind_eq_some_iff.mp (show ((impl_expr_atoms.f k x.f0 x.f1 l).bind fun l1 => impl_expr_atoms.go (impl_expr_atoms.f k) (l0_1.drop (kk + 1)) l1) = some r from hf)
     have H2 := Aside0.mk hl2
     have H3 := Aside0.mk hrest
     have HST := Aside0.mk hst
     have HL1 := Aside0.mk hl1
     obtain ⟨hx0, hx1, _⟩ := hst wr HK.out
     clear hf hl2 hrest hst hl1
     go_wp2_with (first
      | ((with_reducible refine gate_dst (N := 6) rfl ?_); refine box_event ?hg (N := 6) ?hd (cs := #[.string (⟨#[]⟩ : ByteArray), .slice none 0 0]) (t := 55) ?hr ?_; (case hd => rfl); (case hg => rfl); (case hr => first | (go_simp; done) | (go_simp; rfl)); intro g6 hg w4 hbox hb; have HL4 := Aside0.mk (Kd.R_below (Kd.R_elderB HL.out g6 (Nat.le_of_eq hg.symm)) hb); have HB4 := Aside0.mk (below_step HBw.out hb); have HK4 := Aside0.mk (Kept.below HK.out hb); have GE6 := Aside0.mk (show w0.heap.size ≤ g6 by (rw [hg]; exact HBw.out.size)); have GW6 := Aside0.mk (show w.heap.size ≤ g6 by (rw [hg]; exact HK.out.1)); have i60 : w4.cell? ⟨g6, 0, none⟩ = some (.string (⟨#[]⟩ : ByteArray)) := (blk_cell hbox 0).trans rfl; have i61 : w4.cell? ⟨g6, 1, none⟩ = some (.slice none 0 0) := (blk_cell hbox 1).trans rfl; have j60 := blk_frozen hbox 0; have j61 := blk_frozen hbox 1; clear hbox hb hg)
      | (go_at_call 47; refine (HIH.out x.f0 A1 c1 x.f1 (fun k_ => P1_ k_ ∨ w.heap.size ≤ k_) (.slice A l.length c) l l2 w0 _ ?sB ?sR HL1.out ?sO H2.out).mono ?_; (case sB => exact below_set (below_set HB4.out GE6.out) GE6.out); (case sR => exact fun W_ hk => (HST.out W_ (Kept.then_ (Kept.setCell (Kept.setCell HK4.out (p := ⟨g6, 0, none⟩) (.inr GW6.out) _) (p := ⟨g6, 1, none⟩) (.inr GW6.out) _) hk (fun _ h => h))).2.2); (case sO => exact Kd.R_mono (Kd.R_far (p := ⟨g6, 1, none⟩) (Kd.R_far (p := ⟨g6, 0, none⟩) HL4.out (fun _ hk => hk.2) _) (fun _ hk => hk.2) _) (fun _ hk => hk.1)); rintro e w7 ⟨v7, rfl, ho7, hb7, hk7⟩; have HK7 := Aside0.mk (Kept.then_ (Kept.setCell (Kept.setCell HK4.out (p := ⟨g6, 0, none⟩) (.inr GW6.out) _) (p := ⟨g6, 1, none⟩) (.inr GW6.out) _) hk7 (fun _ h => h)); have HL7 := Aside0.mk (Kd.R_mono ho7 (ok' := fun k_ => (P1_ k_ ∨ w.heap.size ≤ k_)) (fun k_ hk => hk.elim (fun h_ => h_) (fun h_ => .inr (Nat.le_trans (Kept.setCell (Kept.setCell HK4.out (p := ⟨g6, 0, none⟩) (.inr GW6.out) _) (p := ⟨g6, 1, none⟩) (.inr GW6.out) _).1 h_)))); have HB7 := Aside0.mk hb7; clear ho7 hb7 hk7; obtain ⟨A7, c7, ev7⟩ := Kd.R_slice HL7.out; subst ev7))
     go_roundg (l0_1.length - (kk + 1))
     case measure => omega
     case rel => exact ⟨kk + 1, l2, A7, c7, by omega, by omega, by go_num, rfl, H3, HL7, HB7, HK7⟩
    ·have hltz : ¬ (kk : Int) < (l0_1.length : Int) := by omega
     have hf := HG.out
     rw [List.drop_of_length_le (by omega), impl_expr_atoms.go] at hf
     obtain rfl := Option.some.inj hf
     clear hf HG
     go_wp2
     go_ret
     exact ⟨_, rfl, HL.out, HBw.out, HK.out⟩
  | false =>
   rw [if_neg (by decide)] at h2
   by_cases cl : l1.length < 8796093022208
   ·rw [if_pos cl] at h2
    have HE := Aside0.mk (Option.some.inj h2)
    have HC1 := Aside0.mk c1
    have LM := Aside0.mk cl
    clear h2 c1 cl
    go_enter Try.func47, Try.ntmps47
    go_wp2_with (first | ((with_reducible refine gate_dst (N := 2) rfl ?_); refine box_event ?hg (N := 2) ?hd (cs := #[.string a0_0, .slice A0_1 l0_1.length c0_1]) (t := 55) ?hr ?_; (case hd => rfl); (case hg => rfl); (case hr => first | (go_simp; done) | (go_simp; rfl)); intro g2 hg w1 hbox hb; have h20 : w1.cell? ⟨g2, 0, none⟩ = some (.string a0_0) := (blk_cell hbox 0).trans rfl; have h21 : w1.cell? ⟨g2, 1, none⟩ = some (.slice A0_1 l0_1.length c0_1) := (blk_cell hbox 1).trans rfl; have HB1 := Aside0.mk hb; clear hbox hb hg) | (go_at_call 64; refine (slices_Contains_string_string.calls k _ _ l1 a0_0 false _ ?side1 ?side2 HC.out).mono ?_; (case side1 => exact (Kd.R_reads' (Kd.R_below HO.out HB1.out)).2.2); (case side2 => exact (Kd.R_reads' HO.out).2.1); rintro e w' ⟨rfl, ⟨nd, rfl⟩⟩) | ((with_reducible refine gate_builtin (b := .append) (xs := #[.tmp 18, .tmp 21]) rfl ?_); at_builtin; refine Kd.R_append Kd.string (w0 := w0) w0.heap.size rfl (.tmp 18) (.tmp 21) 23 9 (.string ⟨#[]⟩) 16 rfl Try.underlying23 info9 rfl (by decide) (by omega) (.slice Au l1.length cu) l1 a0_0 [.string a0_0] (fun k_ => (P1_ k_ ∨ w.heap.size ≤ k_)) (fun _ => False) rfl rfl ?aP (fun _ hk => hk.elim) ?aF ?aO ?aB ?aS ?aL ?_; (case aP => exact rfl); (case aB => exact pw_below_drewN (below_step HBB.out HB1.out) _); (case aF => exact (fun k_ hk => .inr (Nat.le_trans HB1.out.size hk))); (case aO => exact Kd.R_drewN (Kd.R_below HO.out HB1.out) _); (case aS => exact (below_step HBB.out HB1.out).size); (case aL => have := LM.out; omega); intro v107 w8 ho hb hg hat; have HO8 := Aside0.mk ho; have HB8 := Aside0.mk hb; have HK8 := Aside0.mk (Kept.of_grown (S := (fun k_ => P1_ k_)) hg (Kept.drewN (Kept.below (Kept.refl w _) HB1.out) _) (fun k_ e_ => (HO.out.1 k_ e_))); clear ho hb hg hat))
    go_ret
    exact ⟨_, rfl, by rw [← HE.out]; exact HO8.out, HB8.out, HK8.out⟩
   ·rw [if_neg cl] at h2
    cases h2
 ·rw [if_neg c1] at h
  have HG0 := Aside0.mk (show impl_expr_atoms.go (impl_expr_atoms.f k) (l0_1.drop 0) l1 = some r from h)
  have c1z : ((l0_1.length : Int) == 0) = false := by simp [c1]
  have c1b : decide (l0_1.length = 0) = false := decide_eq_false c1
  clear h
  go_enter Try.func47, Try.ntmps47
  go_wp2_with (first | ((with_reducible refine gate_dst (N := 2) rfl ?_); refine box_event ?hg (N := 2) ?hd (cs := #[.string a0_0, .slice A0_1 l0_1.length c0_1]) (t := 55) ?hr ?_; (case hd => rfl); (case hg => rfl); (case hr => first | (go_simp; done) | (go_simp; rfl)); intro g2 hg w1 hbox hb; have h20 : w1.cell? ⟨g2, 0, none⟩ = some (.string a0_0) := (blk_cell hbox 0).trans rfl; have h21 : w1.cell? ⟨g2, 1, none⟩ = some (.slice A0_1 l0_1.length c0_1) := (blk_cell hbox 1).trans rfl; have HB1 := Aside0.mk hb; clear hbox hb hg))
  go_loopg [1, 26] l0_1.length (fun gg v1 v26 wr => ∃ (kk : Nat) (l : List ByteArray) (A : Option Addr) (c : Nat), kk ≤ l0_1.length ∧ l0_1.length - kk ≤ gg ∧ v26 = .int .i64 kk ∧ v1 = .slice A l.length c ∧ Aside0 (impl_expr_atoms.go (impl_expr_atoms.f k) (l0_1.drop kk) l = some r) ∧ Aside0 (Kd.R Kd.string 9 wr w0.heap.size (fun k_ => (P1_ k_ ∨ w.heap.size ≤ k_)) (.slice A l.length c) l) ∧ Aside0 (Below w0.heap.size w0 wr) ∧ Aside0 (Kept w wr (fun k_ => P1_ k_)))
  case atStart => exact ⟨0, l1, Au, cu, Nat.zero_le _, by omega, rfl, rfl, HG0, ⟨by (with_reducible repeat first | apply Kd.R_alloc | apply Kd.R_drewN | apply Kd.R_drew); exact Kd.R_below HO.out HB1.out⟩, ⟨by (with_reducible repeat (first | apply pw_below_drewN | apply below_drew1)); exact below_step HBB.out HB1.out⟩, ⟨by (with_reducible repeat (first | apply Kept.drewN | apply Kept.drew)); exact Kept.below (Kept.refl w _) HB1.out⟩⟩
  case round =>
   clear HG0
   obtain ⟨kk, l, A, c, hkk, hgg, rfl, rfl, HG, HL, HBw, HK⟩ := hrel
   by_cases hlt : kk < l0_1.length
   ·have hltz : (kk : Int) < (l0_1.length : Int) := by omega
    have h0z : (0 : Int) ≤ (kk : Int) := by omega
    obtain ⟨ad, A1, c1, eA, hl1, hst⟩ := kids_stable HR.out (kk : Int) h0z hltz
    subst eA
    rw [Int.toNat_natCast] at hst
    have hd : l0_1.drop kk = rd_T55 l0_1 (kk : Int) :: l0_1.drop (kk + 1) := by
     rw [List.drop_eq_getElem_cons hlt]
     simp [rd_T55, List.getD_eq_getElem?_getD, List.getElem?_eq_getElem hlt]
    have hf := HG.out
    rw [hd] at hf
    clear HG hd
    generalize hy : rd_T55 l0_1 (kk : Int) = x at hl1 hst hf
    clear hy
    obtain ⟨l2, hl2, hrest⟩ := Option.bind_eq_some_iff.mp (show ((impl_expr_atoms.f k x.f0 x.f1 l).bind fun l1 => impl_expr_atoms.go (impl_expr_atoms.f k) (l0_1.drop (kk + 1)) l1) = some r from hf)
    have H2 := Aside0.mk hl2
    have H3 := Aside0.mk hrest
    have HST := Aside0.mk hst
    have HL1 := Aside0.mk hl1
    obtain ⟨hx0, hx1, _⟩ := hst wr HK.out
    clear hf hl2 hrest hst hl1
    go_wp2_with (first
     | ((with_reducible refine gate_dst (N := 6) rfl ?_); refine box_event ?hg (N := 6) ?hd (cs := #[.string (⟨#[]⟩ : ByteArray), .slice none 0 0]) (t := 55) ?hr ?_; (case hd => rfl); (case hg => rfl); (case hr => first | (go_simp; done) | (go_simp; rfl)); intro g6 hg w4 hbox hb; have HL4 := Aside0.mk (Kd.R_below (Kd.R_elderB HL.out g6 (Nat.le_of_eq hg.symm)) hb); have HB4 := Aside0.mk (below_step HBw.out hb); have HK4 := Aside0.mk (Kept.below HK.out hb); have GE6 := Aside0.mk (show w0.heap.size ≤ g6 by (rw [hg]; exact HBw.out.size)); have GW6 := Aside0.mk (show w.heap.size ≤ g6 by (rw [hg]; exact HK.out.1)); have i60 : w4.cell? ⟨g6, 0, none⟩ = some (.string (⟨#[]⟩ : ByteArray)) := (blk_cell hbox 0).trans rfl; have i61 : w4.cell? ⟨g6, 1, none⟩ = some (.slice none 0 0) := (blk_cell hbox 1).trans rfl; have j60 := blk_frozen hbox 0; have j61 := blk_frozen hbox 1; clear hbox hb hg)
     | (go_at_call 47; refine (HIH.out x.f0 A1 c1 x.f1 (fun k_ => P1_ k_ ∨ w.heap.size ≤ k_) (.slice A l.length c) l l2 w0 _ ?sB ?sR HL1.out ?sO H2.out).mono ?_; (case sB => exact below_set (below_set HB4.out GE6.out) GE6.out); (case sR => exact fun W_ hk => (HST.out W_ (Kept.then_ (Kept.setCell (Kept.setCell HK4.out (p := ⟨g6, 0, none⟩) (.inr GW6.out) _) (p := ⟨g6, 1, none⟩) (.inr GW6.out) _) hk (fun _ h => h))).2.2); (case sO => exact Kd.R_mono (Kd.R_far (p := ⟨g6, 1, none⟩) (Kd.R_far (p := ⟨g6, 0, none⟩) HL4.out (fun _ hk => hk.2) _) (fun _ hk => hk.2) _) (fun _ hk => hk.1)); rintro e w7 ⟨v7, rfl, ho7, hb7, hk7⟩; have HK7 := Aside0.mk (Kept.then_ (Kept.setCell (Kept.setCell HK4.out (p := ⟨g6, 0, none⟩) (.inr GW6.out) _) (p := ⟨g6, 1, none⟩) (.inr GW6.out) _) hk7 (fun _ h => h)); have HL7 := Aside0.mk (Kd.R_mono ho7 (ok' := fun k_ => (P1_ k_ ∨ w.heap.size ≤ k_)) (fun k_ hk => hk.elim (fun h_ => h_) (fun h_ => .inr (Nat.le_trans (Kept.setCell (Kept.setCell HK4.out (p := ⟨g6, 0, none⟩) (.inr GW6.out) _) (p := ⟨g6, 1, none⟩) (.inr GW6.out) _).1 h_)))); have HB7 := Aside0.mk hb7; clear ho7 hb7 hk7; obtain ⟨A7, c7, ev7⟩ := Kd.R_slice HL7.out; subst ev7))
    go_roundg (l0_1.length - (kk + 1))
    case measure => omega
    case rel => exact ⟨kk + 1, l2, A7, c7, by omega, by omega, by go_num, rfl, H3, HL7, HB7, HK7⟩
   ·have hltz : ¬ (kk : Int) < (l0_1.length : Int) := by omega
    have hf := HG.out
    rw [List.drop_of_length_le (by omega), impl_expr_atoms.go] at hf
    obtain rfl := Option.some.inj hf
    clear hf HG
    go_wp2
    go_ret
    exact ⟨_, rfl, HL.out, HBw.out, HK.out⟩

end Go.Proofs.Ytdllommmccgleaa.E
