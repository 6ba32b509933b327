-- WRITTEN by wip/ext.py
import Derived.Test.YtcbkpdgbijdbbaaNx0
import Derived.Test.YtcbkpdgbijdbbaaNx1
import Derived.Test.YtcbkpdgbijdbbaaNx2
namespace Go.Proofs.Ytcbkpdgbijdbbaa.N
open Go.RowKit Go.Proofs.YtcbkpdgbijdbbaaW.PrintWords Go.Proofs.YtcbkpdgbijdbbaaW.PrintLast Go.Proofs.YtcbkpdgbijdbbaaW.PrintMore
attribute [local go_sem] max2_int min2_int max_two min_two max_three min_three max_four min_four   -- for this text's walks alone
set_option linter.unusedVariables false
set_option linter.unusedSimpArgs false

/-! ### impl_PlayCalls: function 19 -/
/-! #### A map of the call's own -/
def mget (m : List (ByteArray × Int)) (s : ByteArray) : Int := match m with
 | [] => 0
 | (k, v) :: t => if k.toList = s.toList then v else mget t s
def impl_mapLook.f (m : List (ByteArray × Int)) (s : ByteArray) : Option Int := if s.size ≤ 4611686018427387903 then some (mget m s) else none
def impl_mapPut.f (m : List (ByteArray × Int)) (s : ByteArray) (v : Int) : Option (List (ByteArray × Int)) := if s.size ≤ 4611686018427387903 ∧ m.length ≤ 4611686018427387903 then some ((s, v) :: m) else none
theorem zero_int (w : World) : (zeroValue 3).run Try.prog w = .ok (.int .i64 0) w := by kernel_rfl
/-- Block b is a map; what is looked up in it is what the list says. -/
def OM (W : World) (b : Nat) (m : List (ByteArray × Int)) : Prop :=
 ∃ D : DataW Unit, W.ownsMap Try.prog 9 (plainElem Try.prog 3) b m.length D ∧ Go.Maps.IsMap D ∧ ∀ s : ByteArray, s.size ≤ 4611686018427387903 → D.atKey (.string s.data.toList) (.lit (.int .i64 0)) = .lit (.int .i64 (mget m s))
theorem OM.made (w : World) : OM (w.alloc (.map #[] 0)) w.heap.size [] := ⟨.map [], World.ownsMap_made w _ _ _, Go.Maps.isMap_empty, fun _ _ => rfl⟩
theorem OM.lt {W : World} {b : Nat} {m : List (ByteArray × Int)} (h : OM W b m) : b < W.heap.size := by
 obtain ⟨D, h, _⟩ := h
 exact h.lt
theorem OM.grown {W W' : World} {b : Nat} {m : List (ByteArray × Int)} {row : Option Nat} (h : OM W b m) (hg : W.grownBy W' row) (hne : some b ≠ row) : OM W' b m := by
 obtain ⟨D, h, h2⟩ := h
 exact ⟨D, h.kept hg hne, h2⟩
theorem OM.below {W W' : World} {b : Nat} {m : List (ByteArray × Int)} (h : OM W b m) (hb : Below W.heap.size W W') : OM W' b m := h.grown (row := none) ⟨hb.os, hb.tape, hb.output, hb.size, fun k hk _ => hb.block k hk⟩ (by simp)
theorem OM.set {W : World} {b : Nat} {m : List (ByteArray × Int)} (h : OM W b m) {g : Nat} (hne : b ≠ g) (i : Nat) (v : Value) : OM (W.setCell ⟨g, i, none⟩ v) b m := by
 obtain ⟨D, ⟨es, clock, hb, h1⟩, h2⟩ := h
 exact ⟨D, ⟨es, clock, (Below.heap_setCell W ⟨g, i, none⟩ v b hne).trans hb, h1⟩, h2⟩
theorem OM.ne_row {W : World} {b : Nat} {m : List (ByteArray × Int)} (h : OM W b m) {α : Type} {d : Kd α} {T base : Nat} {ok : Nat → Prop} {v : Value} {xs : List α} (hr : d.R T W base ok v xs) : some b ≠ v.ownBlock := by
 obtain ⟨D, ⟨es, clock, hb, _⟩, _⟩ := h
 obtain ⟨_, inner, ho, _⟩ := hr
 intro hk
 rcases ho.2 with ⟨rfl, _⟩ | ⟨g, cap, cur, rfl, _, hh, _⟩
 ·simp [Value.ownBlock] at hk
 ·have : g = b := by simpa [Value.ownBlock] using hk.symm
  subst this
  rw [hh] at hb
  cases hb
theorem OM.ne_blk {W : World} {b : Nat} {m : List (ByteArray × Int)} (h : OM W b m) {g T : Nat} {cs : Array Value} (hg : W.heap[g]? = some (.cells cs T (0, 0))) : some g ≠ some b := by
 obtain ⟨D, ⟨es, clock, hb, _⟩, _⟩ := h
 intro e
 injection e with e
 subst e
 rw [hg] at hb
 cases hb
theorem R_grown {α : Type} {enc : α → Value} {h1 : ∀ x, (enc x).oneCell' = true} {T base : Nat} {ok : Nat → Prop} {v : Value} {xs : List α} {w w1 : World} {row : Option Nat} (h : (Kd.scalar enc h1).R T w base ok v xs) (hg : w.grownBy w1 row) (hne : row ≠ v.ownBlock) : (Kd.scalar enc h1).R T w1 base ok v xs := by
 obtain ⟨h0, inner, ho, hr⟩ := h
 exact ⟨h0, inner, own_other ho hg (.inr (Ne.symm hne)), hr⟩
theorem OM.key (s : ByteArray) (h : s.size ≤ 4611686018427387903) : keyOf Try.prog 9 (.string s) = some (.string s.data.toList) := Go.WideMaps.keyOf_string_mk Try.underlying9 (by unfold maxLen; omega)
theorem OM.put {W : World} {b n : Nat} {m : List (ByteArray × Int)} {D : DataW Unit} (hI : Go.Maps.IsMap D) (hG : ∀ s : ByteArray, s.size ≤ 4611686018427387903 → D.atKey (.string s.data.toList) (.lit (.int .i64 0)) = .lit (.int .i64 (mget m s))) {k : ByteArray} {v : Int}
  (h : W.ownsMap Try.prog 9 (plainElem Try.prog 3) b (m.length + 1) (D.put (.string k.data.toList) (.lit (.int .i64 v)))) : OM W b ((k, v) :: m) := by
 refine ⟨_, h, hI.put _ _, fun s hs => ?_⟩
 unfold mget
 by_cases e : k.toList = s.toList
 ·rw [if_pos e, ← show k.data.toList = s.data.toList by rw [← Go.Lib.toList_data, ← Go.Lib.toList_data, e]]
  exact Go.Maps.atKey_put_same hI (k := .string k.data.toList) trivial _ _
 ·rw [if_neg e, Go.Maps.atKey_put_other (fun q => e (by injection q with q; rw [Go.Lib.toList_data, Go.Lib.toList_data, q]))]
  exact hG s hs
/-! #### The closure of PlayCalls -/
def impl_replyPred.find (s : ByteArray) : List S44 → Nat → Int
 | [], _ => -1
 | x :: t, i => if x.f0.toList = s.toList then (i : Int) else impl_replyPred.find s t (i + 1)
def impl_replyPred.f (l0 : List S44) (s : ByteArray) (_ : List Int) : Option Int := some (impl_replyPred.find s l0 0)
theorem impl_replyPred.lit (x : S44) (Ax : Option Addr) (cx : Nat) (b : Nat) (s : ByteArray) (w : World) (hb : w.cell? ⟨b, 0, none⟩ = some (.string s)) :
  Calls Try.prog 57 #[.agg #[.string x.f0, .slice Ax x.f1.length cx], .pointer (some ⟨b, 0, none⟩)] w fun e w' => e = .returned (.bool (x.f0.toList == s.toList)) ∧ Below w.heap.size w w' := by
 have hB : b < w.heap.size := World.block_lt_of_cell? w _ hb
 have hne : b ≠ w.heap.size := Nat.ne_of_lt hB
 go_enter Try.func57, Try.ntmps57
 go_wp2
 go_ret
 exact ⟨rfl, (Below.refl _ _).alloc (Nat.le_refl _) _⟩
set_option maxHeartbeats 2000000 in
set_option maxRecDepth 100000 in
/-- slices.IndexFunc with that closure. -/
theorem impl_replyPred.calls (b : Nat) (A0 : Option Addr) (c0 : Nat) (l0 : List S44) (s : ByteArray) (A2 : Option Addr) (c2 : Nat) (a : List Int) (r : Int) (w : World) (hb : w.heap[b]? = some (.cells #[.string s, .slice A2 a.length c2] 33 (0, 0)))
  (hr0 : Kd.C k44 w A0 l0.length l0) (hc0 : l0.length ≤ c0) (_hra : Kd.C (Kd.int .i64) w A2 a.length a) (_hca : a.length ≤ c2) (h : impl_replyPred.f l0 s a = some r) :
  Calls Try.prog 56 #[.slice A0 l0.length c0, .func (.func 57) #[] #[.pointer (some ⟨b, 0, none⟩)]] w fun e w' => e = .returned (.int .i64 r) ∧ Below w.heap.size w w' := by
 have HR := Aside0.mk hr0
 have HBX := Aside0.mk (show w.cell? ⟨b, 0, none⟩ = some (.string s) from (blk_cell hb 0).trans rfl)
 have hmax : (l0.length : Int) ≤ 9223372036854775807 := by have := hr0.2.1; omega
 have HE := Aside0.mk (Option.some.inj h)
 clear hr0 hb _hra _hca hc0 h
 go_enter Try.func56, Try.ntmps56
 go_wp2
 go_loopg [5, 8] l0.length (fun gg _ s8 wr => ∃ kk : Nat, kk ≤ l0.length ∧ l0.length - kk ≤ gg ∧ s8 = .int .i64 kk ∧ Aside0 (Below w.heap.size w wr) ∧ Aside0 (impl_replyPred.find s (l0.drop kk) kk = r))
 case atStart => exact ⟨0, Nat.zero_le _, by omega, rfl, ⟨Below.refl _ w⟩, HE⟩
 case round =>
  obtain ⟨kk, hkk, hg, rfl, BW, HF⟩ := hrel
  by_cases hlt : kk < l0.length
  ·have hltz : (kk : Int) < (l0.length : Int) := by omega
   have h0z : (0 : Int) ≤ (kk : Int) := by omega
   obtain ⟨ad, Ay, cy, e, hx0, hx1, hcy, hry⟩ := at_T44 (Kd.C_below HR.out BW.out) (kk : Int) h0z hltz
   cases e
   rw [Int.toNat_natCast] at hx0 hx1
   have hd : l0.drop kk = rd_T44 l0 (kk : Int) :: l0.drop (kk + 1) := by
    rw [List.drop_eq_getElem_cons hlt]
    simp [rd_T44, List.getD_eq_getElem?_getD, List.getElem?_eq_getElem hlt]
   have hf := HF.out
   rw [hd] at hf
   clear HF hd
   generalize hy : rd_T44 l0 (kk : Int) = y at hx0 hx1 hcy hry hf
   clear hy hcy hry
   have hcall := impl_replyPred.lit y Ay cy b s wr ((BW.out.cell (p := ⟨b, 0, none⟩) (World.block_lt_of_cell? w _ HBX.out)).trans HBX.out)
   by_cases hq : y.f0.toList = s.toList
   ·rw [impl_replyPred.find, if_pos hq] at hf
    have HQ := Aside0.mk hf
    clear hf
    have eq1 : (y.f0.toList == s.toList) = true := beq_iff_eq.2 hq
    rw [eq1] at hcall
    have HC := Aside0.mk hcall
    clear hcall eq1 hq
    go_wp2_with (go_at_call 57; refine HC.out.mono ?_; rintro e w' ⟨rfl, hb'⟩)
    go_ret
    exact ⟨by rw [← HQ.out]; rfl, below_step BW.out hb'⟩
   ·rw [impl_replyPred.find, if_neg hq] at hf
    have HQ := Aside0.mk hf
    clear hf
    have eq1 : (y.f0.toList == s.toList) = false := beq_eq_false_iff_ne.2 hq
    rw [eq1] at hcall
    have HC := Aside0.mk hcall
    clear hcall eq1 hq
    go_wp2_with (go_at_call 57; refine HC.out.mono ?_; rintro e w' ⟨rfl, hb'⟩)
    go_roundg (l0.length - (kk + 1))
    case measure => omega
    case rel => exact ⟨kk + 1, by omega, by omega, by go_num, ⟨below_step BW.out hb'⟩, HQ⟩
  ·have hltz : ¬ (kk : Int) < (l0.length : Int) := by omega
   have hf := HF.out
   rw [List.drop_of_length_le (by omega), impl_replyPred.find] at hf
   have HQ := Aside0.mk hf
   clear hf HF
   go_wp2
   go_ret
   exact ⟨by rw [← HQ.out]; rfl, BW.out⟩
mutual
def impl_PlayCalls.j0 : Nat → List (S33) → Bool → List (S44) → Option (List Int × Bool)
 | 0, _, _, _ => none
 | k + 1, x1, x19, x261000 => if x19 = true then (some (([] : List Int), false)) else (impl_PlayCalls.l0 k (([] : List Int)) ([] : List (ByteArray × Int)) x1 (x1.length : Int) 0 x261000)
def impl_PlayCalls.l0 : Nat → List Int → List (ByteArray × Int) → List (S33) → Int → Int → List (S44) → Option (List Int × Bool)
 | 0, _, _, _, _, _, _ => none
 | k + 1, x6, x7, x22, x23, x24, x261000 => if x24 < x23 then (if 0 ≤ x24 then (if x24 < (x22.length : Int) then ((impl_replyPred.f x261000 ((rd_T33 x22 x24).f0) ((rd_T33 x22 x24).f1)).bind fun t268 => (if t268 < 0 then (some (([] : List Int), false)) else (if 0 ≤ t268 then (if t268 < (x261000.length : Int) then ((impl_mapLook.f x7 ((rd_T33 x22 x24).f0)).bind fun t270 => (if 0 ≤ (mn t270 (wrap64 ((((rd_T44 x261000 t268).f1).length : Int) - 1))) then (if (mn t270 (wrap64 ((((rd_T44 x261000 t268).f1).length : Int) - 1))) < (((rd_T44 x261000 t268).f1).length : Int) then (if x6.length < 17592186044416 then ((impl_mapLook.f x7 ((rd_T33 x22 x24).f0)).bind fun t275 => ((impl_mapPut.f x7 ((rd_T33 x22 x24).f0) (wrap64 (t275 + 1))).bind fun t276 => (impl_PlayCalls.l0 k (x6 ++ [rd ((rd_T44 x261000 t268).f1) (mn t270 (wrap64 ((((rd_T44 x261000 t268).f1).length : Int) - 1)))]) t276 x22 x23 (wrap64 (x24 + 1)) x261000))) else (none)) else (none)) else (none))) else (none)) else (none)))) else (none)) else (none)) else (some (x6, true))
end
def impl_PlayCalls.f (k : Nat) (l0_0 : List (S44)) (l1 : List (S33)) : Option (List Int × Bool) := (impl_ValidDouble.f k l0_0).bind fun t261 => (if t261 = true then ((impl_ValidCalls.f k l1).bind fun t262 => (impl_PlayCalls.j0 k l1 (!t262) l0_0)) else (impl_PlayCalls.j0 k l1 true l0_0))
theorem impl_PlayCalls.mono_l : ∀ k, (∀ y0 y1 y2, LeO (impl_PlayCalls.j0 k y0 y1 y2) (impl_PlayCalls.j0 (k + 1) y0 y1 y2)) ∧ (∀ y0 y1 y2 y3 y4 y5, LeO (impl_PlayCalls.l0 k y0 y1 y2 y3 y4 y5) (impl_PlayCalls.l0 (k + 1) y0 y1 y2 y3 y4 y5))
 | 0 => ⟨fun _ _ _ r h => by simp [impl_PlayCalls.j0] at h, fun _ _ _ _ _ _ r h => by simp [impl_PlayCalls.l0] at h⟩
 | k + 1 => by
  obtain ⟨ih0, ih1⟩ := impl_PlayCalls.mono_l k
  refine ⟨?_, ?_⟩
  ·intro y0 y1 y2
   unfold impl_PlayCalls.j0
   repeat' first
   | (with_reducible exact ih0 _ _ _)
   | (with_reducible exact ih1 _ _ _ _ _ _)
   | (with_reducible exact impl_ValidCalls.mono _ _)
   | (with_reducible exact impl_ValidDouble.mono _ _)
   | (with_reducible exact LeO.refl _)
   | (with_reducible exact LeO.none _)
   | (with_reducible refine LeO.ite ?_ ?_)
   | (with_reducible refine LeO.bind ?_ (fun _ => ?_))
   | refine LeO.ite ?_ ?_
   | refine LeO.bind ?_ (fun _ => ?_)
  ·intro y0 y1 y2 y3 y4 y5
   unfold impl_PlayCalls.l0
   repeat' first
   | (with_reducible exact ih0 _ _ _)
   | (with_reducible exact ih1 _ _ _ _ _ _)
   | (with_reducible exact impl_ValidCalls.mono _ _)
   | (with_reducible exact impl_ValidDouble.mono _ _)
   | (with_reducible exact LeO.refl _)
   | (with_reducible exact LeO.none _)
   | (with_reducible refine LeO.ite ?_ ?_)
   | (with_reducible refine LeO.bind ?_ (fun _ => ?_))
   | refine LeO.ite ?_ ?_
   | refine LeO.bind ?_ (fun _ => ?_)
theorem impl_PlayCalls.mono : ∀ a0 a1 k, LeO (impl_PlayCalls.f k a0 a1) (impl_PlayCalls.f (k + 1) a0 a1) := by
 intro a0 a1 k
 obtain ⟨ih0, ih1⟩ := impl_PlayCalls.mono_l k
 unfold impl_PlayCalls.f
 repeat' first
   | (with_reducible exact ih0 _ _ _)
   | (with_reducible exact ih1 _ _ _ _ _ _)
   | (with_reducible exact impl_ValidCalls.mono _ _)
   | (with_reducible exact impl_ValidDouble.mono _ _)
   | (with_reducible exact LeO.refl _)
   | (with_reducible exact LeO.none _)
   | (with_reducible refine LeO.ite ?_ ?_)
   | (with_reducible refine LeO.bind ?_ (fun _ => ?_))
   | refine LeO.ite ?_ ?_
   | refine LeO.bind ?_ (fun _ => ?_)
set_option maxHeartbeats 8000000 in
set_option maxRecDepth 100000 in
theorem impl_PlayCalls.calls (k : Nat) (A0_0 : Option Addr) (c0_0 : Nat) (l0_0 : List (S44)) (A1 : Option Addr) (c1 : Nat) (l1 : List (S33)) (r1 : List Int) (r2 : Bool) (w : World) (hr0_0 : Kd.C k44 w A0_0 l0_0.length l0_0) (hc0_0 : l0_0.length ≤ c0_0) (hr1 : Kd.C k33 w A1 l1.length l1) (hc1 : l1.length ≤ c1) (h : impl_PlayCalls.f k l0_0 l1 = some (r1, r2)) :
  Calls Try.prog 19 #[.agg #[.slice A0_0 l0_0.length c0_0], .slice A1 l1.length c1] w fun e w' => ∃ v0_ : Value, e = .returned (.tuple #[v0_, .bool r2]) ∧ Kd.R (Kd.int .i64) 3 w' w.heap.size (fun _ => True) v0_ r1 ∧ Below w.heap.size w w' := by
 have hu38 := Try.underlying38; have hu33 := Try.underlying33; have HR0_0 := Aside0.mk hr0_0; have HC0_0 := Aside0.mk hc0_0; clear hr0_0 hc0_0; have HR1 := Aside0.mk hr1; have HC1 := Aside0.mk hc1; clear hr1 hc1; have HB := Aside0.mk (Below.refl w.heap.size w)
 have H : ((impl_ValidDouble.f k l0_0).bind fun t261 => (if t261 = true then ((impl_ValidCalls.f k l1).bind fun t262 => (impl_PlayCalls.j0 k l1 (!t262) l0_0)) else (impl_PlayCalls.j0 k l1 true l0_0))) = some (r1, r2) := h
 clear h; have HC3 := Aside0.mk H; clear H
 go_enter Try.func19, Try.ntmps19
 go_upto_region 1 with (first | ((with_reducible refine gate_dst (N := 2) rfl ?_); refine box_event ?hg (N := 2) ?hd (cs := #[.slice A0_0 l0_0.length c0_0]) (t := 38) ?hr ?_; (case hd => rfl); (case hg => rfl); (case hr => first | (go_simp; done) | (go_simp; rfl)); intro gb260 hg w4 hbox hb; have BK260 := Aside0.mk (hbox); have GW260 := Aside0.mk ((by rw [hg]; exact (below_size (by repeat first | (with_reducible first | exact HB.out | apply below_alloc | apply pw_below_drewN | apply below_drew1) | exact HB.out)) : w.heap.size ≤ gb260)); have GE260 := Aside0.mk ((by rw [hg]; exact (below_size (by repeat first | (with_reducible first | exact HB.out | apply below_alloc | apply pw_below_drewN | apply below_drew1) | exact HB.out)) : w.heap.size ≤ gb260)); replace HB := Aside0.mk (below_step (by repeat first | (with_reducible first | exact HB.out | apply below_alloc | apply pw_below_drewN | apply below_drew1) | exact HB.out) hb); clear hb hbox hg))
 (try simp only [Act.put, List.setIfInBounds_toArray, List.set_cons_zero, List.set_cons_succ])
 go_cut [19] (fun v19 wc => ∃ (kq : Nat) (x19_2 : Bool), v19 = .bool x19_2 ∧ Aside0 (impl_PlayCalls.j0 kq l1 x19_2 l0_0 = some (r1, r2)) ∧ Aside0 (kq ≤ k) ∧ Aside0 (wc.heap[gb260]? = some (.cells #[(.slice A0_0 l0_0.length c0_0)] 38 (0, 0))) ∧ Aside0 (Below w.heap.size w wc))
 case first =>
  have H := HC3.out; clear HC3
  replace H := Option.bind_eq_some_iff.mp H
  obtain ⟨t261, A50, H⟩ := H
  replace H : (if t261 = true then ((impl_ValidCalls.f k l1).bind fun t262 => (impl_PlayCalls.j0 k l1 (!t262) l0_0)) else (impl_PlayCalls.j0 k l1 true l0_0)) = some (r1, r2) := H
  have A5 := Aside0.mk A50; clear A50
  by_cases c6 : t261 = true
  ·subst c6
   have H1 : ((impl_ValidCalls.f k l1).bind fun t262 => (impl_PlayCalls.j0 k l1 (!t262) l0_0)) = some (r1, r2) := by rw [if_pos rfl] at H; exact H
   clear H; have H := H1; clear H1
   replace H := Option.bind_eq_some_iff.mp H
   obtain ⟨t262, A70, H⟩ := H
   replace H : (impl_PlayCalls.j0 k l1 (!t262) l0_0) = some (r1, r2) := H
   have A7 := Aside0.mk A70; clear A70; have H' := Aside0.mk H; clear H
   have hcz8_0 : w4.cell? ⟨gb260, 0, none⟩ = some (.slice A0_0 l0_0.length c0_0) := (blk_cell BK260.out 0).trans rfl
   have hfz8_0 := blk_frozen BK260.out 0
   go_wp2_with (first | ((with_reducible refine gate_callee (f := 55) rfl ?_); refine goesL_ (some 13) rfl rfl Try.func55 (by kernel_rfl) rfl #[.agg #[.slice A0_0 l0_0.length c0_0]] rfl (by (try simp only [List.map_toArray, List.map_cons, List.map_nil]); first | done | rfl) ?_; (with_reducible refine (impl_ValidDouble.calls k _ _ l0_0 true _ ?side1 ?side2 A5.out).mono ?_); (case side1 => repeat (first | exact (Kd.C_below HR0_0.out HB.out) | with_reducible first | apply Kd.C_alloc | apply Kd.C_drewN | apply Kd.C_drew)); (case side2 => exact HC0_0.out); rintro e w9 ⟨rfl, hb⟩; refine ⟨_, rfl, ?_⟩; replace BK260 := Aside0.mk (blk_below (g := gb260) (o := .cells #[.slice A0_0 l0_0.length c0_0] 38 (0, 0)) (by (with_reducible repeat first | apply blk_drewN | apply blk_drew | apply blk_alloc); exact BK260.out) hb); replace HB := Aside0.mk (below_step (by repeat first | (with_reducible first | exact HB.out | apply below_alloc | apply pw_below_drewN | apply below_drew1 | refine below_set ?_ GE260.out) | exact HB.out) hb); (try clear hb)) | (go_at_call 14; (with_reducible refine (impl_ValidCalls.calls k _ _ l1 t262 _ ?side1 ?side2 A7.out).mono ?_); (case side1 => repeat (first | exact (Kd.C_below HR1.out HB.out) | with_reducible first | apply Kd.C_alloc | apply Kd.C_drewN | apply Kd.C_drew)); (case side2 => exact HC1.out); rintro e w10 ⟨rfl, hb⟩; replace BK260 := Aside0.mk (blk_below (g := gb260) (o := .cells #[.slice A0_0 l0_0.length c0_0] 38 (0, 0)) (by (with_reducible repeat first | apply blk_drewN | apply blk_drew | apply blk_alloc); exact BK260.out) hb); replace HB := Aside0.mk (below_step (by repeat first | (with_reducible first | exact HB.out | apply below_alloc | apply pw_below_drewN | apply below_drew1 | refine below_set ?_ GE260.out) | exact HB.out) hb); (try clear hb)))
   go_meet
   case rel => exact ⟨_, (!t262), (by first | rfl | (simp; done) | (simp [*]; done)), H', ⟨by first | omega | exact Nat.le_refl _⟩, ⟨by (with_reducible repeat first | apply blk_drewN | apply blk_drew | apply blk_alloc); exact BK260.out⟩, ⟨by repeat (first | (with_reducible first | exact HB.out | apply below_alloc | apply pw_below_drewN | apply below_drew1 | refine below_set ?_ GE260.out) | exact HB.out)⟩⟩
  ·replace c6 := Bool.eq_false_iff.mpr c6
   subst c6
   have H1 : (impl_PlayCalls.j0 k l1 true l0_0) = some (r1, r2) := by rw [if_neg (show ¬ (false = true) by decide)] at H; exact H
   clear H; have H := H1; clear H1; have H' := Aside0.mk H; clear H
   have hcz11_0 : w4.cell? ⟨gb260, 0, none⟩ = some (.slice A0_0 l0_0.length c0_0) := (blk_cell BK260.out 0).trans rfl
   have hfz11_0 := blk_frozen BK260.out 0
   go_wp2_with (first | ((with_reducible refine gate_callee (f := 55) rfl ?_); refine goesL_ (some 13) rfl rfl Try.func55 (by kernel_rfl) rfl #[.agg #[.slice A0_0 l0_0.length c0_0]] rfl (by (try simp only [List.map_toArray, List.map_cons, List.map_nil]); first | done | rfl) ?_; (with_reducible refine (impl_ValidDouble.calls k _ _ l0_0 false _ ?side1 ?side2 A5.out).mono ?_); (case side1 => repeat (first | exact (Kd.C_below HR0_0.out HB.out) | with_reducible first | apply Kd.C_alloc | apply Kd.C_drewN | apply Kd.C_drew)); (case side2 => exact HC0_0.out); rintro e w12 ⟨rfl, hb⟩; refine ⟨_, rfl, ?_⟩; replace BK260 := Aside0.mk (blk_below (g := gb260) (o := .cells #[.slice A0_0 l0_0.length c0_0] 38 (0, 0)) (by (with_reducible repeat first | apply blk_drewN | apply blk_drew | apply blk_alloc); exact BK260.out) hb); replace HB := Aside0.mk (below_step (by repeat first | (with_reducible first | exact HB.out | apply below_alloc | apply pw_below_drewN | apply below_drew1 | refine below_set ?_ GE260.out) | exact HB.out) hb); (try clear hb)))
   go_meet
   case rel => exact ⟨_, (true), (by first | rfl | (simp; done) | (simp [*]; done)), H', ⟨by first | omega | exact Nat.le_refl _⟩, ⟨by (with_reducible repeat first | apply blk_drewN | apply blk_drew | apply blk_alloc); exact BK260.out⟩, ⟨by repeat (first | (with_reducible first | exact HB.out | apply below_alloc | apply pw_below_drewN | apply below_drew1 | refine below_set ?_ GE260.out) | exact HB.out)⟩⟩
 case rest =>
  clear HC3; try clear c1; try clear p2; try clear c5; try clear c6; try clear hcz11_0; try clear hcz8_0; try clear hfz11_0; try clear hfz8_0
  obtain ⟨kq, x19_2, rfl, HA, HJ2, BK260, HB⟩ := hcut
  cases kq with
  | zero => exact absurd HA.out (by simp [impl_PlayCalls.j0])
  | succ kj2 =>
   have H := HA.out; clear HA
   simp only [impl_PlayCalls.j0] at H
   by_cases c13 : x19_2 = true
   ·subst c13
    have H1 : (some (([] : List Int), false)) = some (r1, r2) := by rw [if_pos rfl] at H; exact H
    clear H; have H := H1; clear H1
    simp only [Option.some.injEq, Prod.mk.injEq] at H
    obtain ⟨rfl, rfl⟩ := H
    go_wp2
    go_ret2
    exact ⟨_, by first | rfl | (simp [errW_none, errW_some] <;> rfl) | (simp [*, errW_none, errW_some] <;> rfl), by first | exact Kd.R_nil _ _ _ _ _ | exact Kd.N_nil _ _ _ _ _ | exact Kd.V_nil _ _ _ _ _ | exact Kd.Q_nil _ _ _ _ _ | exact Kd.S_nil _ _ _ _ _, by repeat (first | (with_reducible first | exact HB.out | apply below_alloc | apply pw_below_drewN | apply below_drew1 | refine below_set ?_ GE260.out) | exact HB.out)⟩
   ·replace c13 := Bool.eq_false_iff.mpr c13
    subst c13
    have H1 : (impl_PlayCalls.l0 kj2 (([] : List Int)) ([] : List (ByteArray × Int)) l1 (l1.length : Int) 0 l0_0) = some (r1, r2) := by rw [if_neg (show ¬ (false = true) by decide)] at H; exact H
    clear H; have H := H1; clear H1
    obtain ⟨y263, hy263⟩ : ∃ y_ : List Int, y_ = (([] : List Int)) := ⟨_, rfl⟩
    replace H : (impl_PlayCalls.l0 kj2 y263 ([] : List (ByteArray × Int)) l1 (l1.length : Int) 0 l0_0) = some (r1, r2) := by first | (rw [hy263]; with_reducible exact H) | (have H2_ := (Option.bind_some _ _).symm.trans H; rw [hy263]; with_reducible exact H2_) | (have H2_ := (Option.bind_some _ _).symm.trans H; with_reducible exact H2_) | with_reducible exact H | (rw [hy263]; exact H) | exact H
    have Ny263 := Aside0.mk hy263; clear hy263; have H' := Aside0.mk H; clear H
    have hmm := @run_makeMap Try.prog
    go_wp2_with (first | ((with_reducible refine gate_dst (N := 20) rfl ?_); refine Kd.R_lit (Kd.int .i64) _ 3 ?hg (N := 20) ?hd (xs := ([] : List Int)) (inner := []) (ok := fun _ => True) (okp := fun _ => True) ?hr ?hp (fun _ hk => hk) trivial (Below.refl _ _) (Nat.le_refl _) (by simp) ?_; (case hd => rfl); (case hg => rfl); (case hr => first | (go_simp; done) | (go_simp; rfl)); (case hp => exact (Reps.none _ _)); intro v264 w14 ho15 hb hg_ hnew_; clear hg_ hnew_; (first | rw [← Ny263.out] at ho15 | (simp only [Int.reduceToNat] at ho15; rw [← Ny263.out] at ho15)); have HO265 := Aside0.mk (Kd.R_lower ho15 (below_size (by repeat first | (with_reducible first | exact HB.out | apply below_alloc | apply pw_below_drewN | apply below_drew1 | refine below_set ?_ GE260.out) | exact HB.out))); replace BK260 := Aside0.mk (blk_below (g := gb260) (o := .cells #[.slice A0_0 l0_0.length c0_0] 38 (0, 0)) (by (with_reducible repeat first | apply blk_drewN | apply blk_drew | apply blk_alloc); exact BK260.out) hb); replace HB := Aside0.mk (below_step (by repeat first | (with_reducible first | exact HB.out | apply below_alloc | apply pw_below_drewN | apply below_drew1 | refine below_set ?_ GE260.out) | exact HB.out) hb); clear hb ho15))
    clear hmm
    have GM := Aside0.mk (show w.heap.size ≤ w14.heap.size from below_size HB.out)
    have HM := Aside0.mk (OM.made w14)
    go_loopg [6, 24] kj2 (fun kq v6 v24 w' => ∃ (x6_2 : List Int) (x7_2 : List (ByteArray × Int)) (x24_2 : Int), v24 = .int .i64 x24_2 ∧ Aside0 (impl_PlayCalls.l0 kq x6_2 x7_2 l1 (l1.length : Int) x24_2 l0_0 = some (r1, r2)) ∧ Aside0 (kq ≤ kj2) ∧ Aside0 (Kd.R (Kd.int .i64) 3 w' w.heap.size (fun _ => True) v6 x6_2) ∧ Aside0 (w'.heap[gb260]? = some (.cells #[(.slice A0_0 l0_0.length c0_0)] 38 (0, 0))) ∧ Aside0 (Below w.heap.size w w') ∧ Aside0 (OM w' w14.heap.size x7_2))
    case atStart => exact ⟨(y263), ([]), (0), (by first | rfl | (simp; done) | (simp [*]; done)), H', ⟨Nat.le_refl _⟩, ⟨by (with_reducible repeat first | apply Kd.R_alloc | apply Kd.R_drewN | apply Kd.R_drew); exact HO265.out⟩, ⟨by (with_reducible repeat first | apply blk_drewN | apply blk_drew | apply blk_alloc); exact BK260.out⟩, ⟨by repeat (first | (with_reducible first | exact HB.out | apply below_alloc | apply pw_below_drewN | apply below_drew1 | refine below_set ?_ GE260.out) | exact HB.out)⟩, HM⟩
    case round =>
     clear H'; try clear c1; try clear p2; try clear c5; try clear c6; try clear c13; try clear hcz11_0; try clear hcz8_0; try clear hfz11_0; try clear hfz8_0; try clear p2
     obtain ⟨x6_2, x7_2, x24_2, rfl, HA, HK2, HO_6, BK260, HB, HM⟩ := hrel
     cases gk with
     | zero => exact absurd HA.out (by simp [impl_PlayCalls.l0])
     | succ k2 =>
      have H := HA.out; clear HA
      simp only [impl_PlayCalls.l0] at H
      by_cases c16 : x24_2 < (l1.length : Int)
      ·rw [if_pos c16] at H
       have c16b0 : decide (x24_2 < (l1.length : Int)) = true := decide_eq_true c16
       clear c16
       by_cases c17 : 0 ≤ x24_2
       ·rw [if_pos c17] at H
        have c17b0 : decide (0 ≤ x24_2) = true := decide_eq_true c17
        clear c17
        by_cases c18 : x24_2 < (l1.length : Int)
        ·rw [if_pos c18] at H
         have c18b0 : decide (x24_2 < (l1.length : Int)) = true := decide_eq_true c18
         clear c18
         replace H := Option.bind_eq_some_iff.mp H
         obtain ⟨t268, A190, H⟩ := H
         replace H : (if t268 < 0 then (some (([] : List Int), false)) else (if 0 ≤ t268 then (if t268 < (l0_0.length : Int) then ((impl_mapLook.f x7_2 ((rd_T33 l1 x24_2).f0)).bind fun t270 => (if 0 ≤ (mn t270 (wrap64 ((((rd_T44 l0_0 t268).f1).length : Int) - 1))) then (if (mn t270 (wrap64 ((((rd_T44 l0_0 t268).f1).length : Int) - 1))) < (((rd_T44 l0_0 t268).f1).length : Int) then (if x6_2.length < 17592186044416 then ((impl_mapLook.f x7_2 ((rd_T33 l1 x24_2).f0)).bind fun t275 => ((impl_mapPut.f x7_2 ((rd_T33 l1 x24_2).f0) (wrap64 (t275 + 1))).bind fun t276 => (impl_PlayCalls.l0 k2 (x6_2 ++ [rd ((rd_T44 l0_0 t268).f1) (mn t270 (wrap64 ((((rd_T44 l0_0 t268).f1).length : Int) - 1)))]) t276 l1 (l1.length : Int) (wrap64 (x24_2 + 1)) l0_0))) else (none)) else (none)) else (none))) else (none)) else (none))) = some (r1, r2) := H
         have A19 := Aside0.mk A190; clear A190
         by_cases c20 : t268 < 0
         ·rw [if_pos c20] at H
          have c20b0 : decide (t268 < 0) = true := decide_eq_true c20
          clear c20
          simp only [Option.some.injEq, Prod.mk.injEq] at H
          obtain ⟨rfl, rfl⟩ := H
          have p266 : 0 ≤ (x24_2 : Int) := of_decide_eq_true (by first | (with_reducible assumption) | assumption)
          have q266 : x24_2 < (l1.length : Int) := of_decide_eq_true (by first | (with_reducible assumption) | assumption)
          obtain ⟨ad266, A266_1, c266_1, e266, hx266_0, hx266_1, hl266_1, hi266_1⟩ := at_T33 HR1.out x24_2 p266 q266
          cases e266
          replace hx266_0 := cup_ HB.out hx266_0; replace hx266_1 := cup_ HB.out hx266_1
          have HR266_1 := Aside0.mk hi266_1; have HC266_1 := Aside0.mk hl266_1; clear hi266_1 hl266_1
          replace p266 := eq_true p266
          replace q266 := eq_true q266
          go_wp2_with (first | ((with_reducible refine gate_dst (N := 9) rfl ?_); refine box_event ?hg (N := 9) ?hd (cs := #[.string (⟨#[]⟩ : ByteArray), .slice none 0 0]) (t := 33) ?hr ?_; (case hd => rfl); (case hg => rfl); (case hr => first | (go_simp; done) | (go_simp; rfl)); intro gb267 hg w21 hbox hb; replace HO_6 := Aside0.mk (Kd.R_below (by (with_reducible repeat first | apply Kd.R_alloc | apply Kd.R_drewN | apply Kd.R_drew); exact HO_6.out) hb); have BK267 := Aside0.mk (hbox); have GW267 := Aside0.mk ((by rw [hg]; exact (below_size (by repeat first | (with_reducible first | exact HB.out | apply below_alloc | apply pw_below_drewN | apply below_drew1 | refine below_set ?_ GE260.out) | exact HB.out)) : w.heap.size ≤ gb267)); have GE267 := Aside0.mk ((by rw [hg]; exact (below_size (by repeat first | (with_reducible first | exact HB.out | apply below_alloc | apply pw_below_drewN | apply below_drew1 | refine below_set ?_ GE260.out) | exact HB.out)) : w.heap.size ≤ gb267)); replace HB := Aside0.mk (below_step (by repeat first | (with_reducible first | exact HB.out | apply below_alloc | apply pw_below_drewN | apply below_drew1 | refine below_set ?_ GE260.out) | exact HB.out) hb); have NB260_267 := Aside0.mk ((by rw [hg]; exact Nat.ne_of_lt (blk_lt (g := gb260) (o := .cells #[.slice A0_0 l0_0.length c0_0] 38 (0, 0)) (by (with_reducible repeat first | apply blk_drewN | apply blk_drew | apply blk_alloc); exact BK260.out)) : gb260 ≠ gb267)); have NB267_260 := Aside0.mk ((by rw [hg]; exact Nat.ne_of_gt (blk_lt (g := gb260) (o := .cells #[.slice A0_0 l0_0.length c0_0] 38 (0, 0)) (by (with_reducible repeat first | apply blk_drewN | apply blk_drew | apply blk_alloc); exact BK260.out)) : gb267 ≠ gb260)); replace BK260 := Aside0.mk (blk_below (g := gb260) (o := .cells #[.slice A0_0 l0_0.length c0_0] 38 (0, 0)) (by (with_reducible repeat first | apply blk_drewN | apply blk_drew | apply blk_alloc); exact BK260.out) hb); clear hb hbox hg; have hnb22 := NB267_260.out; have hnc22 := NB260_267.out; have hcz23_0 : w21.cell? ⟨gb267, 0, none⟩ = some (.string (⟨#[]⟩ : ByteArray)) := (blk_cell BK267.out 0).trans rfl; have hcz23_1 : w21.cell? ⟨gb267, 1, none⟩ = some (.slice none 0 0) := (blk_cell BK267.out 1).trans rfl; have hfz23_0 := blk_frozen BK267.out 0; have hfz23_1 := blk_frozen BK267.out 1; have hcz24_0 : w21.cell? ⟨gb260, 0, none⟩ = some (.slice A0_0 l0_0.length c0_0) := (blk_cell BK260.out 0).trans rfl; have hfz24_0 := blk_frozen BK260.out 0) | ((with_reducible refine gate_callee (f := 56) rfl ?_); refine goesL_ (some 31) rfl rfl Try.func56 (by kernel_rfl) rfl #[.slice A0_0 l0_0.length c0_0, .func (.func 57) #[] #[.pointer (some ⟨gb267, 0, none⟩)]] rfl (by (try simp only [List.map_toArray, List.map_cons, List.map_nil]); first | done | rfl) ?_; (with_reducible refine (impl_replyPred.calls gb267 _ _ l0_0 ((rd_T33 l1 x24_2).f0) A266_1 c266_1 ((rd_T33 l1 x24_2).f1) t268 _ ?side0 ?side1 ?side2 ?side3 ?side4 A19.out).mono ?_); (case side0 => exact (by (with_reducible repeat first | apply blk_drewN | apply blk_drew | apply blk_alloc); refine blk_put (cs := #[.string ((rd_T33 l1 x24_2).f0), .slice none 0 0]) ?_ 1 _ rfl; (with_reducible repeat first | apply blk_drewN | apply blk_drew | apply blk_alloc); refine blk_put (cs := #[.string (⟨#[]⟩ : ByteArray), .slice none 0 0]) ?_ 0 _ rfl; (with_reducible repeat first | apply blk_drewN | apply blk_drew | apply blk_alloc); exact BK267.out)); (case side1 => exact Kd.C_below HR0_0.out (by repeat first | (with_reducible first | exact HB.out | apply below_alloc | apply pw_below_drewN | apply below_drew1 | refine below_set ?_ GE260.out | refine below_set ?_ GE267.out) | exact HB.out)); (case side2 => exact HC0_0.out); (case side3 => exact Kd.C_below HR266_1.out (by repeat first | (with_reducible first | exact HB.out | apply below_alloc | apply pw_below_drewN | apply below_drew1 | refine below_set ?_ GE260.out | refine below_set ?_ GE267.out) | exact HB.out)); (case side4 => exact HC266_1.out); rintro e w25 ⟨rfl, hb⟩; refine ⟨_, rfl, ?_⟩; replace HO_6 := Aside0.mk (Kd.R_below (by (with_reducible repeat first | apply Kd.R_alloc | apply Kd.R_drewN | apply Kd.R_drew); exact (Kd.R_mono (Kd.R_far (p := ⟨gb267, 1, none⟩) (Kd.R_far (p := ⟨gb267, 0, none⟩) (Kd.R_types HO_6.out BK267.out (by decide)) (fun _ hk => hk.2) (.string ((rd_T33 l1 x24_2).f0))) (fun _ hk => hk.2) (.slice A266_1 ((rd_T33 l1 x24_2).f1).length c266_1)) (fun _ h_ => h_.1))) hb); replace BK260 := Aside0.mk (blk_below (g := gb260) (o := .cells #[.slice A0_0 l0_0.length c0_0] 38 (0, 0)) (by (with_reducible repeat first | apply blk_drewN | apply blk_drew | apply blk_alloc); refine blk_far ?_ NB260_267.out _; (with_reducible repeat first | apply blk_drewN | apply blk_drew | apply blk_alloc); refine blk_far ?_ NB260_267.out _; (with_reducible repeat first | apply blk_drewN | apply blk_drew | apply blk_alloc); exact BK260.out) hb); replace BK267 := Aside0.mk (blk_below (g := gb267) (o := .cells #[.string ((rd_T33 l1 x24_2).f0), .slice A266_1 ((rd_T33 l1 x24_2).f1).length c266_1] 33 (0, 0)) (by (with_reducible repeat first | apply blk_drewN | apply blk_drew | apply blk_alloc); refine blk_put (cs := #[.string ((rd_T33 l1 x24_2).f0), .slice none 0 0]) ?_ 1 _ rfl; (with_reducible repeat first | apply blk_drewN | apply blk_drew | apply blk_alloc); refine blk_put (cs := #[.string (⟨#[]⟩ : ByteArray), .slice none 0 0]) ?_ 0 _ rfl; (with_reducible repeat first | apply blk_drewN | apply blk_drew | apply blk_alloc); exact BK267.out) hb); replace HB := Aside0.mk (below_step (by repeat first | (with_reducible first | exact HB.out | apply below_alloc | apply pw_below_drewN | apply below_drew1 | refine below_set ?_ GE260.out | refine below_set ?_ GE267.out) | exact HB.out) hb); (try clear hb)))
          go_ret2
          exact ⟨_, by first | rfl | (simp [errW_none, errW_some] <;> rfl) | (simp [*, errW_none, errW_some] <;> rfl), by first | exact Kd.R_nil _ _ _ _ _ | exact Kd.N_nil _ _ _ _ _ | exact Kd.V_nil _ _ _ _ _ | exact Kd.Q_nil _ _ _ _ _ | exact Kd.S_nil _ _ _ _ _, by repeat (first | (with_reducible first | exact HB.out | apply below_alloc | apply pw_below_drewN | apply below_drew1 | refine below_set ?_ GE260.out | refine below_set ?_ GE267.out) | exact HB.out)⟩
         ·rw [if_neg c20] at H
          have c20b0 : decide (t268 < 0) = false := decide_eq_false c20
          clear c20
          by_cases c26 : 0 ≤ t268
          ·rw [if_pos c26] at H
           have c26b0 : decide (0 ≤ t268) = true := decide_eq_true c26
           clear c26
           by_cases c27 : t268 < (l0_0.length : Int)
           ·rw [if_pos c27] at H
            have c27b0 : decide (t268 < (l0_0.length : Int)) = true := decide_eq_true c27
            clear c27
            replace H := Option.bind_eq_some_iff.mp H
            obtain ⟨t270, A280, H⟩ := H
            replace H : (if 0 ≤ (mn t270 (wrap64 ((((rd_T44 l0_0 t268).f1).length : Int) - 1))) then (if (mn t270 (wrap64 ((((rd_T44 l0_0 t268).f1).length : Int) - 1))) < (((rd_T44 l0_0 t268).f1).length : Int) then (if x6_2.length < 17592186044416 then ((impl_mapLook.f x7_2 ((rd_T33 l1 x24_2).f0)).bind fun t275 => ((impl_mapPut.f x7_2 ((rd_T33 l1 x24_2).f0) (wrap64 (t275 + 1))).bind fun t276 => (impl_PlayCalls.l0 k2 (x6_2 ++ [rd ((rd_T44 l0_0 t268).f1) (mn t270 (wrap64 ((((rd_T44 l0_0 t268).f1).length : Int) - 1)))]) t276 l1 (l1.length : Int) (wrap64 (x24_2 + 1)) l0_0))) else (none)) else (none)) else (none)) = some (r1, r2) := H
            have A28 := Aside0.mk A280; clear A280
            obtain ⟨ji29, hji29⟩ : ∃ j_ : Int, (mn t270 (wrap64 ((((rd_T44 l0_0 t268).f1).length : Int) - 1))) = j_ := ⟨_, rfl⟩
            replace H : (if 0 ≤ (ji29) then (if (ji29) < (((rd_T44 l0_0 t268).f1).length : Int) then (if x6_2.length < 17592186044416 then ((impl_mapLook.f x7_2 ((rd_T33 l1 x24_2).f0)).bind fun t275 => ((impl_mapPut.f x7_2 ((rd_T33 l1 x24_2).f0) (wrap64 (t275 + 1))).bind fun t276 => (impl_PlayCalls.l0 k2 (x6_2 ++ [rd ((rd_T44 l0_0 t268).f1) (ji29)]) t276 l1 (l1.length : Int) (wrap64 (x24_2 + 1)) l0_0))) else (none)) else (none)) else (none)) = some (r1, r2) := by first | (rw [hji29] at H; exact H) | (simp only [hji29] at H ⊢; exact H)
            (try rw [hji29] at A19)
            (try rw [hji29] at A28)
            have hji29_ : (if (wrap64 ((((rd_T44 l0_0 t268).f1).length : Int) - 1)) < t270 then (wrap64 ((((rd_T44 l0_0 t268).f1).length : Int) - 1)) else t270) = ji29 := hji29
            by_cases c30 : 0 ≤ (ji29)
            ·rw [if_pos c30] at H
             have c30b0 : decide (0 ≤ (ji29)) = true := decide_eq_true c30
             clear c30
             by_cases c31 : (ji29) < (((rd_T44 l0_0 t268).f1).length : Int)
             ·rw [if_pos c31] at H
              have c31b0 : decide ((ji29) < (((rd_T44 l0_0 t268).f1).length : Int)) = true := decide_eq_true c31
              clear c31
              by_cases c32 : x6_2.length < 17592186044416
              ·rw [if_pos c32] at H
               have LMc32 := Aside0.mk c32; clear c32
               obtain ⟨y272, hy272⟩ : ∃ y_ : List Int, y_ = (x6_2 ++ [rd ((rd_T44 l0_0 t268).f1) (ji29)]) := ⟨_, rfl⟩
               replace H : ((impl_mapLook.f x7_2 ((rd_T33 l1 x24_2).f0)).bind fun t275 => ((impl_mapPut.f x7_2 ((rd_T33 l1 x24_2).f0) (wrap64 (t275 + 1))).bind fun t276 => (impl_PlayCalls.l0 k2 y272 t276 l1 (l1.length : Int) (wrap64 (x24_2 + 1)) l0_0))) = some (r1, r2) := by first | (rw [hy272]; with_reducible exact H) | (have H2_ := (Option.bind_some _ _).symm.trans H; rw [hy272]; with_reducible exact H2_) | (have H2_ := (Option.bind_some _ _).symm.trans H; with_reducible exact H2_) | with_reducible exact H | (rw [hy272]; exact H) | exact H
               have Ny272 := Aside0.mk hy272; clear hy272
               replace H := Option.bind_eq_some_iff.mp H
               obtain ⟨t275, A330, H⟩ := H
               replace H : ((impl_mapPut.f x7_2 ((rd_T33 l1 x24_2).f0) (wrap64 (t275 + 1))).bind fun t276 => (impl_PlayCalls.l0 k2 y272 t276 l1 (l1.length : Int) (wrap64 (x24_2 + 1)) l0_0)) = some (r1, r2) := H
               have A33 := Aside0.mk A330; clear A330
               replace H := Option.bind_eq_some_iff.mp H
               obtain ⟨t276, A340, H⟩ := H
               replace H : (impl_PlayCalls.l0 k2 y272 t276 l1 (l1.length : Int) (wrap64 (x24_2 + 1)) l0_0) = some (r1, r2) := H
               have A34 := Aside0.mk A340; clear A340; have H' := Aside0.mk H; clear H
               have p266 : 0 ≤ (x24_2 : Int) := of_decide_eq_true (by first | (with_reducible assumption) | assumption)
               have q266 : x24_2 < (l1.length : Int) := of_decide_eq_true (by first | (with_reducible assumption) | assumption)
               obtain ⟨ad266, A266_1, c266_1, e266, hx266_0, hx266_1, hl266_1, hi266_1⟩ := at_T33 HR1.out x24_2 p266 q266
               cases e266
               replace hx266_0 := cup_ HB.out hx266_0; replace hx266_1 := cup_ HB.out hx266_1
               have HR266_1 := Aside0.mk hi266_1; have HC266_1 := Aside0.mk hl266_1; clear hi266_1 hl266_1
               replace p266 := eq_true p266
               replace q266 := eq_true q266
               go_wp2_with (first | ((with_reducible refine gate_dst (N := 9) rfl ?_); refine box_event ?hg (N := 9) ?hd (cs := #[.string (⟨#[]⟩ : ByteArray), .slice none 0 0]) (t := 33) ?hr ?_; (case hd => rfl); (case hg => rfl); (case hr => first | (go_simp; done) | (go_simp; rfl)); intro gb267 hg w35 hbox hb; replace HO_6 := Aside0.mk (Kd.R_below (by (with_reducible repeat first | apply Kd.R_alloc | apply Kd.R_drewN | apply Kd.R_drew); exact HO_6.out) hb); have BK267 := Aside0.mk (hbox); have GW267 := Aside0.mk ((by rw [hg]; exact (below_size (by repeat first | (with_reducible first | exact HB.out | apply below_alloc | apply pw_below_drewN | apply below_drew1 | refine below_set ?_ GE260.out) | exact HB.out)) : w.heap.size ≤ gb267)); have GE267 := Aside0.mk ((by rw [hg]; exact (below_size (by repeat first | (with_reducible first | exact HB.out | apply below_alloc | apply pw_below_drewN | apply below_drew1 | refine below_set ?_ GE260.out) | exact HB.out)) : w.heap.size ≤ gb267)); replace HB := Aside0.mk (below_step (by repeat first | (with_reducible first | exact HB.out | apply below_alloc | apply pw_below_drewN | apply below_drew1 | refine below_set ?_ GE260.out) | exact HB.out) hb); have NB260_267 := Aside0.mk ((by rw [hg]; exact Nat.ne_of_lt (blk_lt (g := gb260) (o := .cells #[.slice A0_0 l0_0.length c0_0] 38 (0, 0)) (by (with_reducible repeat first | apply blk_drewN | apply blk_drew | apply blk_alloc); exact BK260.out)) : gb260 ≠ gb267)); have NB267_260 := Aside0.mk ((by rw [hg]; exact Nat.ne_of_gt (blk_lt (g := gb260) (o := .cells #[.slice A0_0 l0_0.length c0_0] 38 (0, 0)) (by (with_reducible repeat first | apply blk_drewN | apply blk_drew | apply blk_alloc); exact BK260.out)) : gb267 ≠ gb260)); replace BK260 := Aside0.mk (blk_below (g := gb260) (o := .cells #[.slice A0_0 l0_0.length c0_0] 38 (0, 0)) (by (with_reducible repeat first | apply blk_drewN | apply blk_drew | apply blk_alloc); exact BK260.out) hb); have NBM := Aside0.mk (show w14.heap.size ≠ gb267 by rw [hg]; exact Nat.ne_of_lt (OM.lt HM.out)); replace HM := Aside0.mk (OM.below HM.out hb); clear hb hbox hg; have hnb36 := NB267_260.out; have hnc36 := NB260_267.out; have hcz37_0 : w35.cell? ⟨gb267, 0, none⟩ = some (.string (⟨#[]⟩ : ByteArray)) := (blk_cell BK267.out 0).trans rfl; have hcz37_1 : w35.cell? ⟨gb267, 1, none⟩ = some (.slice none 0 0) := (blk_cell BK267.out 1).trans rfl; have hfz37_0 := blk_frozen BK267.out 0; have hfz37_1 := blk_frozen BK267.out 1; have hcz38_0 : w35.cell? ⟨gb260, 0, none⟩ = some (.slice A0_0 l0_0.length c0_0) := (blk_cell BK260.out 0).trans rfl; have hfz38_0 := blk_frozen BK260.out 0) | ((with_reducible refine gate_callee (f := 56) rfl ?_); refine goesL_ (some 31) rfl rfl Try.func56 (by kernel_rfl) rfl #[.slice A0_0 l0_0.length c0_0, .func (.func 57) #[] #[.pointer (some ⟨gb267, 0, none⟩)]] rfl (by (try simp only [List.map_toArray, List.map_cons, List.map_nil]); first | done | rfl) ?_; (with_reducible refine (impl_replyPred.calls gb267 _ _ l0_0 ((rd_T33 l1 x24_2).f0) A266_1 c266_1 ((rd_T33 l1 x24_2).f1) t268 _ ?side0 ?side1 ?side2 ?side3 ?side4 A19.out).mono ?_); (case side0 => exact (by (with_reducible repeat first | apply blk_drewN | apply blk_drew | apply blk_alloc); refine blk_put (cs := #[.string ((rd_T33 l1 x24_2).f0), .slice none 0 0]) ?_ 1 _ rfl; (with_reducible repeat first | apply blk_drewN | apply blk_drew | apply blk_alloc); refine blk_put (cs := #[.string (⟨#[]⟩ : ByteArray), .slice none 0 0]) ?_ 0 _ rfl; (with_reducible repeat first | apply blk_drewN | apply blk_drew | apply blk_alloc); exact BK267.out)); (case side1 => exact Kd.C_below HR0_0.out (by repeat first | (with_reducible first | exact HB.out | apply below_alloc | apply pw_below_drewN | apply below_drew1 | refine below_set ?_ GE260.out | refine below_set ?_ GE267.out) | exact HB.out)); (case side2 => exact HC0_0.out); (case side3 => exact Kd.C_below HR266_1.out (by repeat first | (with_reducible first | exact HB.out | apply below_alloc | apply pw_below_drewN | apply below_drew1 | refine below_set ?_ GE260.out | refine below_set ?_ GE267.out) | exact HB.out)); (case side4 => exact HC266_1.out); rintro e w39 ⟨rfl, hb⟩; refine ⟨_, rfl, ?_⟩; replace HM := Aside0.mk (OM.below (OM.set (OM.set HM.out NBM.out _ _) NBM.out _ _) hb); replace HO_6 := Aside0.mk (Kd.R_below (by (with_reducible repeat first | apply Kd.R_alloc | apply Kd.R_drewN | apply Kd.R_drew); exact (Kd.R_mono (Kd.R_far (p := ⟨gb267, 1, none⟩) (Kd.R_far (p := ⟨gb267, 0, none⟩) (Kd.R_types HO_6.out BK267.out (by decide)) (fun _ hk => hk.2) (.string ((rd_T33 l1 x24_2).f0))) (fun _ hk => hk.2) (.slice A266_1 ((rd_T33 l1 x24_2).f1).length c266_1)) (fun _ h_ => h_.1))) hb); replace BK260 := Aside0.mk (blk_below (g := gb260) (o := .cells #[.slice A0_0 l0_0.length c0_0] 38 (0, 0)) (by (with_reducible repeat first | apply blk_drewN | apply blk_drew | apply blk_alloc); refine blk_far ?_ NB260_267.out _; (with_reducible repeat first | apply blk_drewN | apply blk_drew | apply blk_alloc); refine blk_far ?_ NB260_267.out _; (with_reducible repeat first | apply blk_drewN | apply blk_drew | apply blk_alloc); exact BK260.out) hb); replace BK267 := Aside0.mk (blk_below (g := gb267) (o := .cells #[.string ((rd_T33 l1 x24_2).f0), .slice A266_1 ((rd_T33 l1 x24_2).f1).length c266_1] 33 (0, 0)) (by (with_reducible repeat first | apply blk_drewN | apply blk_drew | apply blk_alloc); refine blk_put (cs := #[.string ((rd_T33 l1 x24_2).f0), .slice none 0 0]) ?_ 1 _ rfl; (with_reducible repeat first | apply blk_drewN | apply blk_drew | apply blk_alloc); refine blk_put (cs := #[.string (⟨#[]⟩ : ByteArray), .slice none 0 0]) ?_ 0 _ rfl; (with_reducible repeat first | apply blk_drewN | apply blk_drew | apply blk_alloc); exact BK267.out) hb); replace HB := Aside0.mk (below_step (by repeat first | (with_reducible first | exact HB.out | apply below_alloc | apply pw_below_drewN | apply below_drew1 | refine below_set ?_ GE260.out | refine below_set ?_ GE267.out) | exact HB.out) hb); (try clear hb); have hcz40_0 : w39.cell? ⟨gb260, 0, none⟩ = some (.slice A0_0 l0_0.length c0_0) := (blk_cell BK260.out 0).trans rfl; have hfz40_0 := blk_frozen BK260.out 0; have p269 : 0 ≤ (t268 : Int) := of_decide_eq_true (by first | (with_reducible assumption) | assumption); have q269 : t268 < (l0_0.length : Int) := of_decide_eq_true (by first | (with_reducible assumption) | assumption); obtain ⟨ad269, A269_1, c269_1, e269, hx269_0, hx269_1, hl269_1, hi269_1⟩ := at_T44 HR0_0.out t268 p269 q269; cases e269; replace hx269_0 := (HB.out.cell (World.block_lt_of_cell? w _ hx269_0)).trans hx269_0; replace hx269_1 := (HB.out.cell (World.block_lt_of_cell? w _ hx269_1)).trans hx269_1; have HR269_1 := Aside0.mk hi269_1; have HC269_1 := Aside0.mk hl269_1; clear hi269_1 hl269_1; replace p269 := eq_true p269; replace q269 := eq_true q269; have hcz41_0 : w39.cell? ⟨gb267, 0, none⟩ = some (.string ((rd_T33 l1 x24_2).f0)) := (blk_cell BK267.out 0).trans rfl; have hcz41_1 : w39.cell? ⟨gb267, 1, none⟩ = some (.slice A266_1 ((rd_T33 l1 x24_2).f1).length c266_1) := (blk_cell BK267.out 1).trans rfl; have hfz41_0 := blk_frozen BK267.out 0; have hfz41_1 := blk_frozen BK267.out 1) | (at_lookup; obtain ⟨D_, hown_, hI_, hG_⟩ := HM.out; obtain ⟨hks_, hke_⟩ : ((rd_T33 l1 x24_2).f0).size ≤ 4611686018427387903 ∧ mget x7_2 ((rd_T33 l1 x24_2).f0) = t270 := (by have e_ := A28.out; unfold impl_mapLook.f at e_; split at e_; (next h_ => exact ⟨h_, Option.some.inj e_⟩); cases e_); refine wpList_lookup_own_int _ rfl _ _ 82 rfl 9 3 .i64 (Go.Maps.string_keyed Try.underlying9) Try.underlying82 Try.underlying3 (zero_int _) w14.heap.size x7_2.length D_ rfl hown_ _ _ rfl (OM.key _ hks_) ?_; intro c_ hat_ hwc_; obtain rfl : t270 = c_ := (by rw [hG_ _ hks_, hke_] at hat_; injection hat_ with h1_; injection h1_); clear hat_ hwc_ hG_ hI_ hown_ hks_ hke_; have p271 : 0 ≤ ((ji29) : Int) := of_decide_eq_true (by first | (with_reducible assumption) | assumption); have q271 : (ji29) < (((rd_T44 l0_0 t268).f1).length : Int) := of_decide_eq_true (by first | (with_reducible assumption) | assumption); obtain ⟨ad271, e271, hx271_0⟩ := Kd.at_int HR269_1.out (ji29) p271 q271; cases e271; replace hx271_0 := (HB.out.cell (World.block_lt_of_cell? w _ hx271_0)).trans hx271_0; replace p271 := eq_true p271; replace q271 := eq_true q271) | ((with_reducible refine gate_builtin (b := .append) (xs := #[.tmp 40, .tmp 52]) rfl ?_); at_builtin; refine Kd.R_append (Kd.int .i64) (w0 := w) w.heap.size rfl (.tmp 40) (.tmp 52) 27 3 (.int .i64 0) 8 rfl Try.underlying27 info3 rfl (by decide) (by omega) u6 x6_2 (rd ((rd_T44 l0_0 t268).f1) (ji29)) [.int .i64 (rd ((rd_T44 l0_0 t268).f1) (ji29))] (fun _ => True) (fun _ => False) rfl rfl ?aP (fun _ hk => hk.elim) ?aF ?aO ?aB ?aS ?aL ?_; (case aP => exact rfl); (case aB => exact (by repeat first | (with_reducible first | exact HB.out | apply below_alloc | apply pw_below_drewN | apply below_drew1 | refine below_set ?_ GE260.out | refine below_set ?_ GE267.out) | exact HB.out)); (case aF => exact (fun _ _ => trivial)); (case aO => exact (by (with_reducible repeat first | apply Kd.R_alloc | apply Kd.R_drewN | apply Kd.R_drew); exact HO_6.out)); (case aS => exact (below_size (by repeat first | (with_reducible first | exact HB.out | apply below_alloc | apply pw_below_drewN | apply below_drew1 | refine below_set ?_ GE260.out | refine below_set ?_ GE267.out) | exact HB.out))); (case aL => have := LMc32.out; omega); intro v273 w42 ho hb hg hat; rw [← Ny272.out] at ho; replace HM := Aside0.mk (OM.grown HM.out hg (OM.ne_row HM.out HO_6.out)); replace BK260 := Aside0.mk (blk_grown (g := gb260) (o := .cells #[.slice (some ad269) l0_0.length c0_0] 38 (0, 0)) (by (with_reducible repeat first | apply blk_drewN | apply blk_drew | apply blk_alloc); exact BK260.out) hg (Kd.R_ne HO_6.out BK260.out (by decide))); replace BK267 := Aside0.mk (blk_grown (g := gb267) (o := .cells #[.string ((rd_T33 l1 x24_2).f0), .slice A266_1 ((rd_T33 l1 x24_2).f1).length c266_1] 33 (0, 0)) (by (with_reducible repeat first | apply blk_drewN | apply blk_drew | apply blk_alloc); exact BK267.out) hg (Kd.R_ne HO_6.out BK267.out (by decide))); replace HB := Aside0.mk (hb); have HO274 := Aside0.mk (ho); clear HO_6; clear ho hb hg hat; have hcz43_0 : w42.cell? ⟨gb267, 0, none⟩ = some (.string ((rd_T33 l1 x24_2).f0)) := (blk_cell BK267.out 0).trans rfl; have hcz43_1 : w42.cell? ⟨gb267, 1, none⟩ = some (.slice A266_1 ((rd_T33 l1 x24_2).f1).length c266_1) := (blk_cell BK267.out 1).trans rfl; have hfz43_0 := blk_frozen BK267.out 0; have hfz43_1 := blk_frozen BK267.out 1) | (at_lookup; obtain ⟨D_, hown_, hI_, hG_⟩ := HM.out; obtain ⟨hks_, hke_⟩ : ((rd_T33 l1 x24_2).f0).size ≤ 4611686018427387903 ∧ mget x7_2 ((rd_T33 l1 x24_2).f0) = t275 := (by have e_ := A33.out; unfold impl_mapLook.f at e_; split at e_; (next h_ => exact ⟨h_, Option.some.inj e_⟩); cases e_); refine wpList_lookup_own_int _ rfl _ _ 82 rfl 9 3 .i64 (Go.Maps.string_keyed Try.underlying9) Try.underlying82 Try.underlying3 (zero_int _) w14.heap.size x7_2.length D_ rfl hown_ _ _ rfl (OM.key _ hks_) ?_; intro c_ hat_ hwc_; obtain rfl : t275 = c_ := (by rw [hG_ _ hks_, hke_] at hat_; injection hat_ with h1_; injection h1_); clear hat_ hwc_ hG_ hI_ hown_ hks_ hke_) | (at_mapUpdate; obtain ⟨D_, hown_, hI_, hG_⟩ := HM.out; obtain ⟨⟨hks_, hkl_⟩, hke_⟩ : (((rd_T33 l1 x24_2).f0).size ≤ 4611686018427387903 ∧ x7_2.length ≤ 4611686018427387903) ∧ (((rd_T33 l1 x24_2).f0), (wrap64 (t275 + 1))) :: x7_2 = t276 := (by have e_ := A34.out; unfold impl_mapPut.f at e_; split at e_; (next h_ => exact ⟨h_, Option.some.inj e_⟩); cases e_); refine wpList_mapUpdate_own _ rfl _ _ _ 82 rfl 9 3 (Go.Maps.string_keyed Try.underlying9) Try.underlying82 _ w14.heap.size x7_2.length D_ rfl hown_ (by unfold maxLen; omega) _ _ _ rfl rfl (OM.key _ hks_) _ [] (plainElem_int Try.underlying3 (wrap64_wf _)) ?_; intro w44 ho_ hg_; clear hkl_; replace HO274 := Aside0.mk (R_grown HO274.out hg_ (OM.ne_row HM.out HO274.out)); replace BK260 := Aside0.mk (blk_grown (g := gb260) (o := .cells #[.slice (some ad269) l0_0.length c0_0] 38 (0, 0)) BK260.out hg_ (OM.ne_blk HM.out BK260.out)); replace BK267 := Aside0.mk (blk_grown (g := gb267) (o := .cells #[.string ((rd_T33 l1 x24_2).f0), .slice A266_1 ((rd_T33 l1 x24_2).f1).length c266_1] 33 (0, 0)) BK267.out hg_ (OM.ne_blk HM.out BK267.out)); replace HB := Aside0.mk (HB.out.grown hg_ (below_size HB.out) (fun j_ hj_ => by cases hj_; exact GM.out)); replace HM := Aside0.mk (show OM w44 w14.heap.size t276 by rw [← hke_, show t275 = t270 from Option.some.inj (A33.out.symm.trans A28.out)]; exact OM.put (n := 0) hI_ hG_ ho_); clear ho_ hg_ hG_ hI_ hown_ hks_ hke_))
               go_roundg k2
               case measure => have := HJ2.out; have := HK2.out; omega
               case rel => exact ⟨(y272), (t276), (wrap64 (x24_2 + 1)), (by first | rfl | (simp; done) | (simp [*]; done)), H', ⟨by have := HJ2.out; have := HK2.out; omega⟩, ⟨by (with_reducible repeat first | apply Kd.R_alloc | apply Kd.R_drewN | apply Kd.R_drew); exact HO274.out⟩, ⟨by (with_reducible repeat first | apply blk_drewN | apply blk_drew | apply blk_alloc); exact BK260.out⟩, ⟨by repeat (first | (with_reducible first | exact HB.out | apply below_alloc | apply pw_below_drewN | apply below_drew1 | refine below_set ?_ GE260.out | refine below_set ?_ GE267.out) | exact HB.out)⟩, HM⟩
              ·rw [if_neg c32] at H
               exact absurd H (by simp)
             ·rw [if_neg c31] at H
              exact absurd H (by simp)
            ·rw [if_neg c30] at H
             exact absurd H (by simp)
           ·rw [if_neg c27] at H
            exact absurd H (by simp)
          ·rw [if_neg c26] at H
           exact absurd H (by simp)
        ·rw [if_neg c18] at H
         exact absurd H (by simp)
       ·rw [if_neg c17] at H
        exact absurd H (by simp)
      ·rw [if_neg c16] at H
       have c16b0 : decide (x24_2 < (l1.length : Int)) = false := decide_eq_false c16
       clear c16
       simp only [Option.some.injEq, Prod.mk.injEq] at H
       obtain ⟨rfl, rfl⟩ := H
       go_wp2
       go_ret2
       exact ⟨_, by first | rfl | (simp [errW_none, errW_some] <;> rfl) | (simp [*, errW_none, errW_some] <;> rfl), by (with_reducible repeat first | apply Kd.R_alloc | apply Kd.R_drewN | apply Kd.R_drew); exact HO_6.out, by repeat (first | (with_reducible first | exact HB.out | apply below_alloc | apply pw_below_drewN | apply below_drew1 | refine below_set ?_ GE260.out) | exact HB.out)⟩

/-! ### spec_inRange: function 70 -/
def spec_inRange.f (a0 : Int) (a1 : Int) (a2 : Int) : Option (Bool) := if a1 ≤ a0 then (some (decide (a0 ≤ a2))) else (some false)
set_option maxHeartbeats 8000000 in
set_option maxRecDepth 100000 in
theorem spec_inRange.calls (a0 : Int) (a1 : Int) (a2 : Int) (r : Bool) (w : World) (h : spec_inRange.f a0 a1 a2 = some r) :
  Calls Try.prog 70 #[.int .i64 a0, .int .i64 a1, .int .i64 a2] w fun e w' => e = .returned (.bool r) ∧ Drawn0 w w' := by
 have H : (if a1 ≤ a0 then (some (decide (a0 ≤ a2))) else (some false)) = some r := h
 clear h
 by_cases c4 : a1 ≤ a0
 ·rw [if_pos c4] at H
  have c4b0 : decide (a1 ≤ a0) = true := decide_eq_true c4
  clear c4
  obtain rfl := Option.some.inj H
  go_enter Try.func70, Try.ntmps70
  go_wp2
  go_ret
  exact ⟨by first | rfl | (simp; done) | (simp [*]; done), by repeat (first | exact Drawn0.refl _ | apply Drawn0.step)⟩
 ·rw [if_neg c4] at H
  have c4b0 : decide (a1 ≤ a0) = false := decide_eq_false c4
  clear c4
  obtain rfl := Option.some.inj H
  go_enter Try.func70, Try.ntmps70
  go_wp2
  go_ret
  exact ⟨by first | rfl | (simp; done) | (simp [*]; done), by repeat (first | exact Drawn0.refl _ | apply Drawn0.step)⟩

/-! ### spec_validName: function 79 -/
def spec_validName.l0 : Nat → ByteArray → Int → Option (Bool)
 | 0, _, _ => none
 | k + 1, x0, x3 => if x3 < (x0.size : Int) then (if 0 ≤ x3 then (if (bt x0 x3) < 97 then (some false) else (if (bt x0 x3) > 122 then (some false) else (spec_validName.l0 k x0 (wrap64 (x3 + 1))))) else (none)) else ((spec_inRange.f (x0.size : Int) 1 6).bind fun t125 => (if t125 = true then (if x0.toList = ([97, 110, 100] : List UInt8) then (some false) else (if x0.toList = ([111, 114] : List UInt8) then (some false) else (some (x0.toList != ([110, 111, 116] : List UInt8))))) else (some false)))
def spec_validName.f (k : Nat) (a0 : ByteArray) : Option (Bool) := spec_validName.l0 k a0 0
theorem spec_validName.mono_l : ∀ k, (∀ y0 y1, LeO (spec_validName.l0 k y0 y1) (spec_validName.l0 (k + 1) y0 y1))
 | 0 => fun _ _ r h => by simp [spec_validName.l0] at h
 | k + 1 => by
  have ih0 := spec_validName.mono_l k
  ·intro y0 y1
   unfold spec_validName.l0
   repeat' first
   | (with_reducible exact ih0 _ _)
   | (with_reducible exact LeO.refl _)
   | (with_reducible exact LeO.none _)
   | (with_reducible refine LeO.ite ?_ ?_)
   | (with_reducible refine LeO.bind ?_ (fun _ => ?_))
   | refine LeO.ite ?_ ?_
   | refine LeO.bind ?_ (fun _ => ?_)
theorem spec_validName.mono : ∀ a0 k, LeO (spec_validName.f k a0) (spec_validName.f (k + 1) a0) := by
 intro a0 k
 have ih0 := spec_validName.mono_l k
 unfold spec_validName.f
 repeat' first
   | (with_reducible exact ih0 _ _)
   | (with_reducible exact LeO.refl _)
   | (with_reducible exact LeO.none _)
   | (with_reducible refine LeO.ite ?_ ?_)
   | (with_reducible refine LeO.bind ?_ (fun _ => ?_))
   | refine LeO.ite ?_ ?_
   | refine LeO.bind ?_ (fun _ => ?_)
set_option maxHeartbeats 8000000 in
set_option maxRecDepth 100000 in
theorem spec_validName.calls (k : Nat) (a0 : ByteArray) (r : Bool) (w : World) (h : spec_validName.f k a0 = some r) :
  Calls Try.prog 79 #[.string a0] w fun e w' => e = .returned (.bool r) ∧ Drawn0 w w' := by
 have H : (spec_validName.l0 k a0 0) = some r := h
 clear h; have H' := Aside0.mk H; clear H
 go_enter Try.func79, Try.ntmps79
 go_wp2
 go_loopg [3] k (fun kq v3 w' => ∃ (x3_1 : Int), v3 = .int .i64 x3_1 ∧ Aside0 (spec_validName.l0 kq a0 x3_1 = some r) ∧ Aside0 (kq ≤ k) ∧ Drawn0 w w')
 case atStart => exact ⟨(0), (by first | rfl | (simp; done) | (simp [*]; done)), H', ⟨Nat.le_refl _⟩, by repeat (first | exact Drawn0.refl _ | apply Drawn0.step)⟩
 case round =>
  clear H'
  obtain ⟨x3_1, rfl, HA, HK1, ⟨m1, rfl⟩⟩ := hrel
  cases gk with
  | zero => exact absurd HA.out (by simp [spec_validName.l0])
  | succ k1 =>
   have H := HA.out; clear HA
   simp only [spec_validName.l0] at H
   by_cases c2 : x3_1 < (a0.size : Int)
   ·rw [if_pos c2] at H
    have c2b0 : decide (x3_1 < (a0.size : Int)) = true := decide_eq_true c2
    clear c2
    by_cases c3 : 0 ≤ x3_1
    ·rw [if_pos c3] at H
     have c3b0 : decide (0 ≤ x3_1) = true := decide_eq_true c3
     clear c3
     by_cases c5 : (bt a0 x3_1) < 97
     ·rw [if_pos c5] at H
      have c5b0 : decide ((bt a0 x3_1) < 97) = true := decide_eq_true c5
      clear c5
      obtain rfl := Option.some.inj H
      have p4 : 0 ≤ (x3_1 : Int) := of_decide_eq_true (by first | (with_reducible assumption) | assumption)
      have q4 : x3_1 < (a0.size : Int) := of_decide_eq_true (by first | (with_reducible assumption) | assumption)
      have hx4 := bt_at a0 x3_1
      replace p4 := eq_true p4
      replace q4 := eq_true q4
      go_wp2
      go_ret
      exact ⟨by first | rfl | (simp; done) | (simp [*]; done), by repeat (first | exact Drawn0.refl _ | apply Drawn0.step)⟩
     ·rw [if_neg c5] at H
      have c5b0 : decide ((bt a0 x3_1) < 97) = false := decide_eq_false c5
      clear c5
      by_cases c7 : (bt a0 x3_1) > 122
      ·rw [if_pos c7] at H
       have c7b0 : decide (122 < (bt a0 x3_1)) = true := decide_eq_true c7
       clear c7
       obtain rfl := Option.some.inj H
       have p4 : 0 ≤ (x3_1 : Int) := of_decide_eq_true (by first | (with_reducible assumption) | assumption)
       have q4 : x3_1 < (a0.size : Int) := of_decide_eq_true (by first | (with_reducible assumption) | assumption)
       have hx4 := bt_at a0 x3_1
       replace p4 := eq_true p4
       replace q4 := eq_true q4
       have p6 : 0 ≤ (x3_1 : Int) := of_decide_eq_true (by first | (with_reducible assumption) | assumption)
       have q6 : x3_1 < (a0.size : Int) := of_decide_eq_true (by first | (with_reducible assumption) | assumption)
       have hx6 := bt_at a0 x3_1
       replace p6 := eq_true p6
       replace q6 := eq_true q6
       go_wp2
       go_ret
       exact ⟨by first | rfl | (simp; done) | (simp [*]; done), by repeat (first | exact Drawn0.refl _ | apply Drawn0.step)⟩
      ·rw [if_neg c7] at H
       have c7b0 : decide (122 < (bt a0 x3_1)) = false := decide_eq_false c7
       clear c7; have H' := Aside0.mk H; clear H
       have p4 : 0 ≤ (x3_1 : Int) := of_decide_eq_true (by first | (with_reducible assumption) | assumption)
       have q4 : x3_1 < (a0.size : Int) := of_decide_eq_true (by first | (with_reducible assumption) | assumption)
       have hx4 := bt_at a0 x3_1
       replace p4 := eq_true p4
       replace q4 := eq_true q4
       have p6 : 0 ≤ (x3_1 : Int) := of_decide_eq_true (by first | (with_reducible assumption) | assumption)
       have q6 : x3_1 < (a0.size : Int) := of_decide_eq_true (by first | (with_reducible assumption) | assumption)
       have hx6 := bt_at a0 x3_1
       replace p6 := eq_true p6
       replace q6 := eq_true q6
       go_wp2
       go_roundg k1
       case measure => have := HK1.out; omega
       case rel => exact ⟨(wrap64 (x3_1 + 1)), (by first | rfl | (simp; done) | (simp [*]; done)), H', ⟨by have := HK1.out; omega⟩, by repeat (first | exact Drawn0.refl _ | apply Drawn0.step)⟩
    ·rw [if_neg c3] at H
     exact absurd H (by simp)
   ·rw [if_neg c2] at H
    have c2b0 : decide (x3_1 < (a0.size : Int)) = false := decide_eq_false c2
    clear c2
    replace H := Option.bind_eq_some_iff.mp H
    obtain ⟨t125, A80, H⟩ := H
    replace H : (if t125 = true then (if a0.toList = ([97, 110, 100] : List UInt8) then (some false) else (if a0.toList = ([111, 114] : List UInt8) then (some false) else (some (a0.toList != ([110, 111, 116] : List UInt8))))) else (some false)) = some r := H
    have A8 := Aside0.mk A80; clear A80
    by_cases c9 : t125 = true
    ·subst c9
     have H1 : (if a0.toList = ([97, 110, 100] : List UInt8) then (some false) else (if a0.toList = ([111, 114] : List UInt8) then (some false) else (some (a0.toList != ([110, 111, 116] : List UInt8))))) = some r := by rw [if_pos rfl] at H; exact H
     clear H; have H := H1; clear H1
     by_cases c10 : a0.toList = ([97, 110, 100] : List UInt8)
     ·rw [if_pos c10] at H
      have c10b0 : (a0.toList == ([97, 110, 100] : List UInt8)) = true := beq_iff_eq.mpr c10
      have c10b1 : (a0.toList != ([97, 110, 100] : List UInt8)) = false := bne_eq_false_iff_eq.mpr c10
      clear c10
      obtain rfl := Option.some.inj H
      go_wp2_with (first | ((with_reducible refine gate_callee (f := 70) rfl ?_); refine goesL_ (some 22) rfl rfl Try.func70 (by kernel_rfl) rfl #[.int .i64 (a0.size : Int), .int .i64 1, .int .i64 6] rfl (by (try simp only [List.map_toArray, List.map_cons, List.map_nil]); first | done | rfl) ?_; (with_reducible refine (spec_inRange.calls (a0.size : Int) 1 6 true _ A8.out).mono ?_); rintro e w' ⟨rfl, ⟨nd, rfl⟩⟩; refine ⟨_, rfl, ?_⟩))
      go_ret
      exact ⟨by first | rfl | (simp; done) | (simp [*]; done), by repeat (first | exact Drawn0.refl _ | apply Drawn0.step)⟩
     ·rw [if_neg c10] at H
      have c10b0 : (a0.toList == ([97, 110, 100] : List UInt8)) = false := beq_eq_false_iff_ne.mpr c10
      have c10b1 : (a0.toList != ([97, 110, 100] : List UInt8)) = true := bne_iff_ne.mpr c10
      by_cases c11 : a0.toList = ([111, 114] : List UInt8)
      ·rw [if_pos c11] at H
       have c11b0 : (a0.toList == ([111, 114] : List UInt8)) = true := beq_iff_eq.mpr c11
       have c11b1 : (a0.toList != ([111, 114] : List UInt8)) = false := bne_eq_false_iff_eq.mpr c11
       clear c11
       obtain rfl := Option.some.inj H
       go_wp2_with (first | ((with_reducible refine gate_callee (f := 70) rfl ?_); refine goesL_ (some 22) rfl rfl Try.func70 (by kernel_rfl) rfl #[.int .i64 (a0.size : Int), .int .i64 1, .int .i64 6] rfl (by (try simp only [List.map_toArray, List.map_cons, List.map_nil]); first | done | rfl) ?_; (with_reducible refine (spec_inRange.calls (a0.size : Int) 1 6 true _ A8.out).mono ?_); rintro e w' ⟨rfl, ⟨nd, rfl⟩⟩; refine ⟨_, rfl, ?_⟩))
       go_ret
       exact ⟨by first | rfl | (simp; done) | (simp [*]; done), by repeat (first | exact Drawn0.refl _ | apply Drawn0.step)⟩
      ·rw [if_neg c11] at H
       have c11b0 : (a0.toList == ([111, 114] : List UInt8)) = false := beq_eq_false_iff_ne.mpr c11
       have c11b1 : (a0.toList != ([111, 114] : List UInt8)) = true := bne_iff_ne.mpr c11
       obtain rfl := Option.some.inj H
       go_wp2_with (first | ((with_reducible refine gate_callee (f := 70) rfl ?_); refine goesL_ (some 22) rfl rfl Try.func70 (by kernel_rfl) rfl #[.int .i64 (a0.size : Int), .int .i64 1, .int .i64 6] rfl (by (try simp only [List.map_toArray, List.map_cons, List.map_nil]); first | done | rfl) ?_; (with_reducible refine (spec_inRange.calls (a0.size : Int) 1 6 true _ A8.out).mono ?_); rintro e w' ⟨rfl, ⟨nd, rfl⟩⟩; refine ⟨_, rfl, ?_⟩))
       go_ret
       exact ⟨by first | rfl | (simp; done) | (simp [*]; done), by repeat (first | exact Drawn0.refl _ | apply Drawn0.step)⟩
    ·replace c9 := Bool.eq_false_iff.mpr c9
     subst c9
     have H1 : (some false) = some r := by rw [if_neg (show ¬ (false = true) by decide)] at H; exact H
     clear H; have H := H1; clear H1
     obtain rfl := Option.some.inj H
     go_wp2_with (first | ((with_reducible refine gate_callee (f := 70) rfl ?_); refine goesL_ (some 22) rfl rfl Try.func70 (by kernel_rfl) rfl #[.int .i64 (a0.size : Int), .int .i64 1, .int .i64 6] rfl (by (try simp only [List.map_toArray, List.map_cons, List.map_nil]); first | done | rfl) ?_; (with_reducible refine (spec_inRange.calls (a0.size : Int) 1 6 false _ A8.out).mono ?_); rintro e w' ⟨rfl, ⟨nd, rfl⟩⟩; refine ⟨_, rfl, ?_⟩))
     go_ret
     exact ⟨by first | rfl | (simp; done) | (simp [*]; done), by repeat (first | exact Drawn0.refl _ | apply Drawn0.step)⟩

end Go.Proofs.Ytcbkpdgbijdbbaa.N
