-- WRITTEN by wip/ext.py
import Derived.Test.YtdllommmccgleaaYx0
import Derived.Test.YtdllommmccgleaaYx5
namespace Go.Proofs.Ytdllommmccgleaa.Y
open Go.RowKit Go.Proofs.YtdllommmccgleaaW.PrintWords Go.Proofs.YtdllommmccgleaaW.PrintLast Go.Proofs.YtdllommmccgleaaW.PrintMore
attribute [local go_sem] max2_int min2_int max_two min_two max_three min_three max_four min_four   -- for this text's walks alone
set_option linter.unusedVariables false
set_option linter.unusedSimpArgs false

/-! ### impl_takeRow: function 69 -/
/-! #### impl.takeFactor, takeRow, takeRow$1: they call each other -/
abbrev TkF := ByteArray → Option (ByteArray × (List S55) × ByteArray × Bool)
abbrev LeT (T T' : TkF) : Prop := ∀ s, LeO (T s) (T' s)
abbrev TkOk (f : Nat) (T : TkF) : Prop := ∀ (s r1 : ByteArray) (r2 : List S55) (r3 : ByteArray) (r4 : Bool) (w : World), T s = some (r1, r2, r3, r4) → Calls Try.prog f #[.string s] w fun e w' => ∃ v1_ : Value, e = .returned (.tuple #[.agg #[.string r1, v1_], .string r3, .bool r4]) ∧ Kd.R k55 55 w' w.heap.size (fun _ => True) v1_ r2 ∧ Below w.heap.size w w'
def impl_row.l0 (T : TkF) (word sep : ByteArray) : Nat → ByteArray → List S55 → ByteArray → Bool → Option (ByteArray × (List S55) × ByteArray × Bool)
 | 0, _, _, _, _ => none
 | k + 1, ex, ek, rest, ok => if ok = true then ((strings_CutPrefix.f rest sep).bind fun b => (if b.2 = true then ((T b.1).bind fun t => impl_row.l0 T word sep k word [⟨ex, ek⟩, ⟨t.1, t.2.1⟩] t.2.2.1 t.2.2.2) else (some (ex, ek, rest, ok)))) else (some (ex, ek, rest, ok))
def impl_row.f (T : TkF) (word sep : ByteArray) (k : Nat) (s : ByteArray) : Option (ByteArray × (List S55) × ByteArray × Bool) := (T s).bind fun t => impl_row.l0 T word sep k t.1 t.2.1 t.2.2.1 t.2.2.2
theorem impl_row.mono_l {T T' : TkF} (hT : LeT T T') (word sep : ByteArray) : ∀ k, (∀ y0 y1 y2 y3, LeO (impl_row.l0 T word sep k y0 y1 y2 y3) (impl_row.l0 T' word sep (k + 1) y0 y1 y2 y3))
 | 0 => fun _ _ _ _ r h => by simp [impl_row.l0] at h
 | k + 1 => fun y0 y1 y2 y3 => by
  unfold impl_row.l0
  exact LeO.ite (LeO.bind (LeO.refl _) fun b => LeO.ite (LeO.bind (hT _) fun t => impl_row.mono_l hT word sep k _ _ _ _) (LeO.refl _)) (LeO.refl _)
theorem impl_row.mono {T T' : TkF} (hT : LeT T T') (word sep : ByteArray) (k : Nat) : LeT (impl_row.f T word sep k) (impl_row.f T' word sep (k + 1)) := fun s => LeO.bind (hT s) fun t => impl_row.mono_l hT word sep k _ _ _ _
set_option maxHeartbeats 8000000 in
set_option maxRecDepth 100000 in
theorem impl_row.and (T : TkF) (HT : Aside0 (TkOk 85 T)) (k : Nat) (s r1 : ByteArray) (r2 : List S55) (r3 : ByteArray) (r4 : Bool) (w : World) (h : impl_row.f T ⟨#[97, 110, 100]⟩ ⟨#[32, 97, 110, 100, 32]⟩ k s = some (r1, r2, r3, r4)) :
  Calls Try.prog 69 #[.string s, .string ⟨#[97, 110, 100]⟩] w fun e w' => ∃ v1_ : Value, e = .returned (.tuple #[.agg #[.string r1, v1_], .string r3, .bool r4]) ∧ Kd.R k55 55 w' w.heap.size (fun _ => True) v1_ r2 ∧ Below w.heap.size w w' := by
 obtain ⟨⟨e0, k0, s0, o0⟩, h0, h1⟩ := Option.bind_eq_some_iff.mp h
 clear h
 have h : impl_row.l0 T ⟨#[97, 110, 100]⟩ ⟨#[32, 97, 110, 100, 32]⟩ k e0 k0 s0 o0 = some (r1, r2, r3, r4) := h1
 clear h1
 have H0 := Aside0.mk h0; have H := Aside0.mk h; clear h0 h
 go_enter Try.func69, Try.ntmps69
 go_wp2_with (first
  | ((with_reducible refine gate_dst (N := 4) rfl ?_); refine box_event ?hg (N := 4) ?hd (cs := #[.string (⟨#[]⟩ : ByteArray), .slice none 0 0]) (t := 55) ?hr ?_; (case hd => rfl); (case hg => rfl); (case hr => first | (go_simp; done) | (go_simp; rfl)); intro g4 hg w1 hbox hb; have BK4 := Aside0.mk hbox; have GE4 := Aside0.mk (show w.heap.size ≤ g4 by (rw [hg]; exact Nat.le_refl _)); have HB1 := Aside0.mk hb; clear hbox hb hg)
  | (go_at_call 85; refine (HT.out s e0 k0 s0 o0 _ H0.out).mono ?_; rintro e w2 ⟨v0, rfl, ho0, hb⟩; have HO2 := Aside0.mk (Kd.R_lower (Kd.R_newB ho0 BK4.out) HB1.out.size); have BK4' := Aside0.mk (blk_below BK4.out hb); have HB2 := Aside0.mk (below_step HB1.out hb); clear ho0 hb; obtain ⟨A0, c0, ev0⟩ := Kd.R_slice HO2.out; subst ev0)
  | ((with_reducible refine gate_dst (N := 8) rfl ?_); refine box_event ?hg (N := 8) ?hd (cs := #[.string (⟨#[]⟩ : ByteArray), .slice none 0 0]) (t := 55) ?hr ?_; (case hd => rfl); (case hg => rfl); (case hr => first | (go_simp; done) | (go_simp; rfl)); intro g8 hg w3 hbox hb; have HO3 := Aside0.mk (Kd.R_below (Kd.R_elderB HO2.out g8 (Nat.le_of_eq hg.symm)) hb); have BK8 := Aside0.mk hbox; have BK43 := Aside0.mk (blk_below BK4'.out hb); have GE8 := Aside0.mk (show w.heap.size ≤ g8 by (rw [hg]; exact HB2.out.size)); have N48 := Aside0.mk (show g4 ≠ g8 by (rw [hg]; exact Nat.ne_of_lt (blk_lt BK4'.out))); have HB3 := Aside0.mk (below_step HB2.out hb); clear hbox hb hg; have h80 : w3.cell? ⟨g8, 0, none⟩ = some (.string (⟨#[]⟩ : ByteArray)) := (blk_cell BK8.out 0).trans rfl; have h81 : w3.cell? ⟨g8, 1, none⟩ = some (.slice none 0 0) := (blk_cell BK8.out 1).trans rfl; have f80 := blk_frozen BK8.out 0; have f81 := blk_frozen BK8.out 1))
 clear H0
 go_loopg [9, 10] k (fun kq v9 v10 wr => ∃ (ex : ByteArray) (ek : List S55) (A c : _) (rest : ByteArray) (ok : Bool), v9 = .string rest ∧ v10 = .bool ok ∧ Aside0 (impl_row.l0 T ⟨#[97, 110, 100]⟩ ⟨#[32, 97, 110, 100, 32]⟩ kq ex ek rest ok = some (r1, r2, r3, r4)) ∧ Aside0 (kq ≤ k) ∧ Aside0 (wr.heap[g8]? = some (.cells #[.string ex, .slice A ek.length c] 55 (0, 0))) ∧ Aside0 (wr.heap[g4]? = some (.cells #[.string (⟨#[]⟩ : ByteArray), .slice none 0 0] 55 (0, 0))) ∧ Aside0 (Kd.R k55 55 wr w.heap.size (fun k_ => k_ ≠ g4 ∧ k_ ≠ g8) (.slice A ek.length c) ek) ∧ Aside0 (Below w.heap.size w wr))
 case atStart =>
  refine ⟨e0, k0, A0, c0, s0, o0, rfl, rfl, H, ⟨Nat.le_refl _⟩, ⟨?_⟩, ⟨blk_far (blk_far BK43.out N48.out _) N48.out _⟩, ⟨?_⟩, ⟨below_set (below_set HB3.out GE8.out) GE8.out⟩⟩
  ·exact blk_put (cs := #[.string e0, .slice none 0 0]) (blk_put (cs := #[.string (⟨#[]⟩ : ByteArray), .slice none 0 0]) BK8.out 0 _ rfl) 1 _ rfl
  ·exact Kd.R_mono (Kd.R_far (p := ⟨g8, 1, none⟩) (Kd.R_far (p := ⟨g8, 0, none⟩) HO3.out (fun _ hk => hk.2) _) (fun _ hk => hk.2) _) (fun _ hk => ⟨hk.1.2, hk.2⟩)
 case round =>
  clear H HO2 HO3 BK8 BK4 BK4' BK43 HB1 HB2 HB3 h80 h81 f80 f81
  obtain ⟨ex, ek, A, c, rest, ok, rfl, rfl, HA, HK, BK8, BK4, HO, HB⟩ := hrel
  have h80 : wr.cell? ⟨g8, 0, none⟩ = some (.string ex) := (blk_cell BK8.out 0).trans rfl
  have h81 : wr.cell? ⟨g8, 1, none⟩ = some (.slice A ek.length c) := (blk_cell BK8.out 1).trans rfl
  have f80 := blk_frozen BK8.out 0
  have f81 := blk_frozen BK8.out 1
  have h40 : wr.cell? ⟨g4, 0, none⟩ = some (.string (⟨#[]⟩ : ByteArray)) := (blk_cell BK4.out 0).trans rfl
  have h41 : wr.cell? ⟨g4, 1, none⟩ = some (.slice none 0 0) := (blk_cell BK4.out 1).trans rfl
  have f40 := blk_frozen BK4.out 0
  have f41 := blk_frozen BK4.out 1
  cases gk with
  | zero => exact absurd HA.out (by simp [impl_row.l0])
  | succ k1 =>
   have h := HA.out; clear HA
   simp only [impl_row.l0] at h
   cases ok with
   | false =>
    rw [if_neg (by decide)] at h
    simp only [Option.some.injEq, Prod.mk.injEq] at h
    obtain ⟨rfl, rfl, rfl, rfl⟩ := h
    go_wp2
    refine bodyPost_ret (results_ctt rfl _ _ g4 55 #[.string ex, .slice A ek.length c] (0, 0) _ rfl (by refine blk_put (cs := #[.string ex, .slice none 0 0]) ?_ 1 _ rfl; refine blk_put (cs := #[.string (⟨#[]⟩ : ByteArray), .slice none 0 0]) ?_ 0 _ rfl; exact BK4.out) Try.underlying55 rfl (by kernel_rfl)) rfl ?_
    exact ⟨_, rfl, Kd.R_mono (Kd.R_far (p := ⟨g4, 1, none⟩) (Kd.R_far (p := ⟨g4, 0, none⟩) HO.out (fun _ hk => hk.1) _) (fun _ hk => hk.1) _) (fun _ _ => trivial), below_set (below_set HB.out GE4.out) GE4.out⟩
   | true =>
    rw [if_pos rfl] at h
    obtain ⟨⟨more, is⟩, hc, h2⟩ := Option.bind_eq_some_iff.mp h
    clear h
    have h : (if is = true then ((T more).bind fun t => impl_row.l0 T ⟨#[97, 110, 100]⟩ ⟨#[32, 97, 110, 100, 32]⟩ k1 ⟨#[97, 110, 100]⟩ [⟨ex, ek⟩, ⟨t.1, t.2.1⟩] t.2.2.1 t.2.2.2) else (some (ex, ek, rest, true))) = some (r1, r2, r3, r4) := h2
    have HC := Aside0.mk hc; clear hc h2
    cases is with
    | false =>
     rw [if_neg (by decide)] at h
     simp only [Option.some.injEq, Prod.mk.injEq] at h
     obtain ⟨rfl, rfl, rfl, rfl⟩ := h
     go_wp2_with (go_at_call 87; refine (strings_CutPrefix.calls rest ⟨#[32, 97, 110, 100, 32]⟩ more false _ HC.out).mono ?_; rintro e w' ⟨rfl, ⟨nd, rfl⟩⟩)
     refine bodyPost_ret (results_ctt rfl _ _ g4 55 #[.string ex, .slice A ek.length c] (0, 0) _ rfl (by refine blk_put (cs := #[.string ex, .slice none 0 0]) ?_ 1 _ rfl; refine blk_put (cs := #[.string (⟨#[]⟩ : ByteArray), .slice none 0 0]) ?_ 0 _ rfl; exact BK4.out) Try.underlying55 rfl (by kernel_rfl)) rfl ?_
     exact ⟨_, rfl, Kd.R_mono (Kd.R_far (p := ⟨g4, 1, none⟩) (Kd.R_far (p := ⟨g4, 0, none⟩) (Kd.R_drewN HO.out _) (fun _ hk => hk.1) _) (fun _ hk => hk.1) _) (fun _ _ => trivial), below_set (below_set (pw_below_drewN HB.out _) GE4.out) GE4.out⟩
    | true =>
     rw [if_pos rfl] at h
     obtain ⟨⟨n0, n1, n2, n3⟩, hn, h2⟩ := Option.bind_eq_some_iff.mp h
     clear h
     have HN := Aside0.mk hn
     have H := Aside0.mk (show impl_row.l0 T ⟨#[97, 110, 100]⟩ ⟨#[32, 97, 110, 100, 32]⟩ k1 ⟨#[97, 110, 100]⟩ [⟨ex, ek⟩, ⟨n0, n1⟩] n2 n3 = some (r1, r2, r3, r4) from h2)
     clear hn h2
     go_wp2_with (first
      | (go_at_call 87; refine (strings_CutPrefix.calls rest ⟨#[32, 97, 110, 100, 32]⟩ more true _ HC.out).mono ?_; rintro e w' ⟨rfl, ⟨nd, rfl⟩⟩)
      | ((with_reducible refine gate_dst (N := 13) rfl ?_); refine box_event ?hg (N := 13) ?hd (cs := #[.string (⟨#[]⟩ : ByteArray), .slice none 0 0]) (t := 55) ?hr ?_; (case hd => rfl); (case hg => rfl); (case hr => first | (go_simp; done) | (go_simp; rfl)); intro g13 hg w4 hbox hb; have BW := Aside0.mk (show Below wr.heap.size wr w4 from below_step (pw_below_drewN (Below.refl wr.heap.size wr) _) hb); have BK13 := Aside0.mk hbox; have GE13 := Aside0.mk (show w.heap.size ≤ g13 by (rw [hg]; exact HB.out.size)); have N413 := Aside0.mk (show g4 ≠ g13 by (rw [hg]; exact Nat.ne_of_lt (blk_lt BK4.out))); have n813 : g8 ≠ g13 := (by rw [hg]; exact Nat.ne_of_lt (blk_lt BK8.out)); have N813 := Aside0.mk n813; have n138 : g13 ≠ g8 := fun e_ => n813 e_.symm; have GW := Aside0.mk (show wr.heap.size ≤ g13 by (rw [hg]; exact Nat.le_refl _)); clear hbox hb hg)
      | (go_at_call 85; refine (HT.out more n0 n1 n2 n3 _ HN.out).mono ?_; rintro e w5 ⟨v5, rfl, ho5, hb⟩; have HN5 := Aside0.mk (Kd.R_mono (Kd.R_bound (Kd.R_newB ho5 BK13.out)) (ok' := fun k_ => (k_ ≠ g4 ∧ k_ ≠ g8) ∧ k_ ≠ g13) (fun k_ hk => ⟨⟨fun e_ => absurd hk.2.1 (by rw [e_]; exact Nat.not_le_of_lt (Nat.lt_of_lt_of_le (blk_lt BK4.out) BW.out.size)), fun e_ => absurd hk.2.1 (by rw [e_]; exact Nat.not_le_of_lt (Nat.lt_of_lt_of_le (blk_lt BK8.out) BW.out.size))⟩, hk.1.2⟩)); have HN5 := Aside0.mk (Kd.R_lower HN5.out (Nat.le_trans HB.out.size BW.out.size)); have BK135 := Aside0.mk (blk_below BK13.out hb); have BW5 := Aside0.mk (below_step BW.out hb); clear ho5 hb; obtain ⟨A5, c5, ev5⟩ := Kd.R_slice HN5.out; subst ev5; have i130 : w5.cell? ⟨g13, 0, none⟩ = some (.string (⟨#[]⟩ : ByteArray)) := (blk_cell BK135.out 0).trans rfl; have i131 : w5.cell? ⟨g13, 1, none⟩ = some (.slice none 0 0) := (blk_cell BK135.out 1).trans rfl; have j130 := blk_frozen BK135.out 0; have j131 := blk_frozen BK135.out 1; have BK85 := Aside0.mk (blk_below BK8.out BW5.out); have i80 : w5.cell? ⟨g8, 0, none⟩ = some (.string ex) := (blk_cell BK85.out 0).trans rfl; have i81 : w5.cell? ⟨g8, 1, none⟩ = some (.slice A ek.length c) := (blk_cell BK85.out 1).trans rfl)
      | ((with_reducible refine gate_dst (N := 44) rfl ?_); refine Kd.R_lit k55 (w0 := w) w.heap.size 55 ?hg (N := 44) ?hd (xs := ([⟨ex, ek⟩, ⟨n0, n1⟩] : List S55)) (inner := [.string ex, .slice A ek.length c, .string n0, .slice A5 n1.length c5]) (ok := fun k_ => k_ ≠ g4 ∧ k_ ≠ g8) (okp := fun k_ => k_ ≠ g4 ∧ k_ ≠ g8) ?hr ?hp (fun _ hk => hk) ?hf ?hB ?hs (by simp) ?_; (case hd => rfl); (case hg => rfl); (case hr => first | (go_simp; done) | (go_simp; rfl)); (case hp => exact Reps.c2 (k55_mkM _ _ _ (⟨ex, ek⟩ : S55) (Kd.R_mono (Kd.R_far (p := ⟨g13, 1, none⟩) (Kd.R_far (p := ⟨g13, 0, none⟩) (Kd.R_below (Kd.R_elderB HO.out g13 GW.out) BW5.out) (fun _ hk => hk.2) (.string n0)) (fun _ hk => hk.2) (.slice A5 n1.length c5)) (fun _ hk => hk.1))) (Reps.c2 (k55_mkM _ _ _ (⟨n0, n1⟩ : S55) (Kd.R_far (p := ⟨g13, 1, none⟩) (Kd.R_far (p := ⟨g13, 0, none⟩) HN5.out (fun _ hk => hk.2) (.string n0)) (fun _ hk => hk.2) (.slice A5 n1.length c5) |> fun z => Kd.R_mono z (fun _ hk => hk.1))) (Reps.none _ _))); (case hf => exact ⟨Nat.ne_of_gt (blk_lt (blk_far (blk_far (blk_below BK4.out BW5.out) N413.out _) N413.out _)), Nat.ne_of_gt (blk_lt (blk_far (blk_far BK85.out N813.out _) N813.out _))⟩); (case hB => exact below_set (below_set (below_step HB.out BW5.out) GE13.out) GE13.out); (case hs => exact (below_set (below_set (below_step HB.out BW5.out) GE13.out) GE13.out).size); intro v9 w9 ho9 hb9 hg9 hn9; have HO9 := Aside0.mk ho9; have HB9 := Aside0.mk hb9; have BK89 := Aside0.mk (blk_grown (blk_far (blk_far BK85.out N813.out _) N813.out _) hg9 (by simp)); have BK49 := Aside0.mk (blk_grown (blk_far (blk_far (blk_below BK4.out BW5.out) N413.out _) N413.out _) hg9 (by simp)); clear ho9 hb9 hg9 hn9; obtain ⟨A9, c9, ev9⟩ := Kd.R_slice HO9.out; replace ev9 : v9 = .slice A9 2 c9 := ev9; subst ev9; have m80 : w9.cell? ⟨g8, 0, none⟩ = some (.string ex) := (blk_cell BK89.out 0).trans rfl; have m81 : w9.cell? ⟨g8, 1, none⟩ = some (.slice A ek.length c) := (blk_cell BK89.out 1).trans rfl; have o80 := blk_frozen BK89.out 0; have o81 := blk_frozen BK89.out 1))
     go_roundg k1
     case measure => have := HK.out; omega
     case rel =>
      refine ⟨⟨#[97, 110, 100]⟩, [⟨ex, ek⟩, ⟨n0, n1⟩], A9, c9, n2, n3, rfl, rfl, H, ⟨by have := HK.out; omega⟩, ⟨?_⟩, ⟨blk_far (blk_far BK49.out N48.out _) N48.out _⟩, ⟨?_⟩, ⟨below_set (below_set HB9.out GE8.out) GE8.out⟩⟩
      ·exact blk_put (cs := #[.string ⟨#[97, 110, 100]⟩, .slice A ek.length c]) (blk_put (cs := #[.string ex, .slice A ek.length c]) BK89.out 0 _ rfl) 1 _ rfl
      ·exact Kd.R_far (p := ⟨g8, 1, none⟩) (Kd.R_far (p := ⟨g8, 0, none⟩) HO9.out (fun _ hk => hk.2) _) (fun _ hk => hk.2) _
set_option maxHeartbeats 8000000 in
set_option maxRecDepth 100000 in
theorem impl_row.or (T : TkF) (HT : Aside0 (TkOk 86 T)) (k : Nat) (s r1 : ByteArray) (r2 : List S55) (r3 : ByteArray) (r4 : Bool) (w : World) (h : impl_row.f T ⟨#[111, 114]⟩ ⟨#[32, 111, 114, 32]⟩ k s = some (r1, r2, r3, r4)) :
  Calls Try.prog 69 #[.string s, .string ⟨#[111, 114]⟩] w fun e w' => ∃ v1_ : Value, e = .returned (.tuple #[.agg #[.string r1, v1_], .string r3, .bool r4]) ∧ Kd.R k55 55 w' w.heap.size (fun _ => True) v1_ r2 ∧ Below w.heap.size w w' := by
 obtain ⟨⟨e0, k0, s0, o0⟩, h0, h1⟩ := Option.bind_eq_some_iff.mp h
 clear h
 have h : impl_row.l0 T ⟨#[111, 114]⟩ ⟨#[32, 111, 114, 32]⟩ k e0 k0 s0 o0 = some (r1, r2, r3, r4) := h1
 clear h1
 have H0 := Aside0.mk h0; have H := Aside0.mk h; clear h0 h
 go_enter Try.func69, Try.ntmps69
 go_wp2_with (first
  | ((with_reducible refine gate_dst (N := 4) rfl ?_); refine box_event ?hg (N := 4) ?hd (cs := #[.string (⟨#[]⟩ : ByteArray), .slice none 0 0]) (t := 55) ?hr ?_; (case hd => rfl); (case hg => rfl); (case hr => first | (go_simp; done) | (go_simp; rfl)); intro g4 hg w1 hbox hb; have BK4 := Aside0.mk hbox; have GE4 := Aside0.mk (show w.heap.size ≤ g4 by (rw [hg]; exact Nat.le_refl _)); have HB1 := Aside0.mk hb; clear hbox hb hg)
  | (go_at_call 86; refine (HT.out s e0 k0 s0 o0 _ H0.out).mono ?_; rintro e w2 ⟨v0, rfl, ho0, hb⟩; have HO2 := Aside0.mk (Kd.R_lower (Kd.R_newB ho0 BK4.out) HB1.out.size); have BK4' := Aside0.mk (blk_below BK4.out hb); have HB2 := Aside0.mk (below_step HB1.out hb); clear ho0 hb; obtain ⟨A0, c0, ev0⟩ := Kd.R_slice HO2.out; subst ev0)
  | ((with_reducible refine gate_dst (N := 8) rfl ?_); refine box_event ?hg (N := 8) ?hd (cs := #[.string (⟨#[]⟩ : ByteArray), .slice none 0 0]) (t := 55) ?hr ?_; (case hd => rfl); (case hg => rfl); (case hr => first | (go_simp; done) | (go_simp; rfl)); intro g8 hg w3 hbox hb; have HO3 := Aside0.mk (Kd.R_below (Kd.R_elderB HO2.out g8 (Nat.le_of_eq hg.symm)) hb); have BK8 := Aside0.mk hbox; have BK43 := Aside0.mk (blk_below BK4'.out hb); have GE8 := Aside0.mk (show w.heap.size ≤ g8 by (rw [hg]; exact HB2.out.size)); have N48 := Aside0.mk (show g4 ≠ g8 by (rw [hg]; exact Nat.ne_of_lt (blk_lt BK4'.out))); have HB3 := Aside0.mk (below_step HB2.out hb); clear hbox hb hg; have h80 : w3.cell? ⟨g8, 0, none⟩ = some (.string (⟨#[]⟩ : ByteArray)) := (blk_cell BK8.out 0).trans rfl; have h81 : w3.cell? ⟨g8, 1, none⟩ = some (.slice none 0 0) := (blk_cell BK8.out 1).trans rfl; have f80 := blk_frozen BK8.out 0; have f81 := blk_frozen BK8.out 1))
 clear H0
 go_loopg [9, 10] k (fun kq v9 v10 wr => ∃ (ex : ByteArray) (ek : List S55) (A c : _) (rest : ByteArray) (ok : Bool), v9 = .string rest ∧ v10 = .bool ok ∧ Aside0 (impl_row.l0 T ⟨#[111, 114]⟩ ⟨#[32, 111, 114, 32]⟩ kq ex ek rest ok = some (r1, r2, r3, r4)) ∧ Aside0 (kq ≤ k) ∧ Aside0 (wr.heap[g8]? = some (.cells #[.string ex, .slice A ek.length c] 55 (0, 0))) ∧ Aside0 (wr.heap[g4]? = some (.cells #[.string (⟨#[]⟩ : ByteArray), .slice none 0 0] 55 (0, 0))) ∧ Aside0 (Kd.R k55 55 wr w.heap.size (fun k_ => k_ ≠ g4 ∧ k_ ≠ g8) (.slice A ek.length c) ek) ∧ Aside0 (Below w.heap.size w wr))
 case atStart =>
  refine ⟨e0, k0, A0, c0, s0, o0, rfl, rfl, H, ⟨Nat.le_refl _⟩, ⟨?_⟩, ⟨blk_far (blk_far BK43.out N48.out _) N48.out _⟩, ⟨?_⟩, ⟨below_set (below_set HB3.out GE8.out) GE8.out⟩⟩
  ·exact blk_put (cs := #[.string e0, .slice none 0 0]) (blk_put (cs := #[.string (⟨#[]⟩ : ByteArray), .slice none 0 0]) BK8.out 0 _ rfl) 1 _ rfl
  ·exact Kd.R_mono (Kd.R_far (p := ⟨g8, 1, none⟩) (Kd.R_far (p := ⟨g8, 0, none⟩) HO3.out (fun _ hk => hk.2) _) (fun _ hk => hk.2) _) (fun _ hk => ⟨hk.1.2, hk.2⟩)
 case round =>
  clear H HO2 HO3 BK8 BK4 BK4' BK43 HB1 HB2 HB3 h80 h81 f80 f81
  obtain ⟨ex, ek, A, c, rest, ok, rfl, rfl, HA, HK, BK8, BK4, HO, HB⟩ := hrel
  have h80 : wr.cell? ⟨g8, 0, none⟩ = some (.string ex) := (blk_cell BK8.out 0).trans rfl
  have h81 : wr.cell? ⟨g8, 1, none⟩ = some (.slice A ek.length c) := (blk_cell BK8.out 1).trans rfl
  have f80 := blk_frozen BK8.out 0
  have f81 := blk_frozen BK8.out 1
  have h40 : wr.cell? ⟨g4, 0, none⟩ = some (.string (⟨#[]⟩ : ByteArray)) := (blk_cell BK4.out 0).trans rfl
  have h41 : wr.cell? ⟨g4, 1, none⟩ = some (.slice none 0 0) := (blk_cell BK4.out 1).trans rfl
  have f40 := blk_frozen BK4.out 0
  have f41 := blk_frozen BK4.out 1
  cases gk with
  | zero => exact absurd HA.out (by simp [impl_row.l0])
  | succ k1 =>
   have h := HA.out; clear HA
   simp only [impl_row.l0] at h
   cases ok with
   | false =>
    rw [if_neg (by decide)] at h
    simp only [Option.some.injEq, Prod.mk.injEq] at h
    obtain ⟨rfl, rfl, rfl, rfl⟩ := h
    go_wp2
    refine bodyPost_ret (results_ctt rfl _ _ g4 55 #[.string ex, .slice A ek.length c] (0, 0) _ rfl (by refine blk_put (cs := #[.string ex, .slice none 0 0]) ?_ 1 _ rfl; refine blk_put (cs := #[.string (⟨#[]⟩ : ByteArray), .slice none 0 0]) ?_ 0 _ rfl; exact BK4.out) Try.underlying55 rfl (by kernel_rfl)) rfl ?_
    exact ⟨_, rfl, Kd.R_mono (Kd.R_far (p := ⟨g4, 1, none⟩) (Kd.R_far (p := ⟨g4, 0, none⟩) HO.out (fun _ hk => hk.1) _) (fun _ hk => hk.1) _) (fun _ _ => trivial), below_set (below_set HB.out GE4.out) GE4.out⟩
   | true =>
    rw [if_pos rfl] at h
    obtain ⟨⟨more, is⟩, hc, h2⟩ := Option.bind_eq_some_iff.mp h
    clear h
    have h : (if is = true then ((T more).bind fun t => impl_row.l0 T ⟨#[111, 114]⟩ ⟨#[32, 111, 114, 32]⟩ k1 ⟨#[111, 114]⟩ [⟨ex, ek⟩, ⟨t.1, t.2.1⟩] t.2.2.1 t.2.2.2) else (some (ex, ek, rest, true))) = some (r1, r2, r3, r4) := h2
    have HC := Aside0.mk hc; clear hc h2
    cases is with
    | false =>
     rw [if_neg (by decide)] at h
     simp only [Option.some.injEq, Prod.mk.injEq] at h
     obtain ⟨rfl, rfl, rfl, rfl⟩ := h
     go_wp2_with (go_at_call 87; refine (strings_CutPrefix.calls rest ⟨#[32, 111, 114, 32]⟩ more false _ HC.out).mono ?_; rintro e w' ⟨rfl, ⟨nd, rfl⟩⟩)
     refine bodyPost_ret (results_ctt rfl _ _ g4 55 #[.string ex, .slice A ek.length c] (0, 0) _ rfl (by refine blk_put (cs := #[.string ex, .slice none 0 0]) ?_ 1 _ rfl; refine blk_put (cs := #[.string (⟨#[]⟩ : ByteArray), .slice none 0 0]) ?_ 0 _ rfl; exact BK4.out) Try.underlying55 rfl (by kernel_rfl)) rfl ?_
     exact ⟨_, rfl, Kd.R_mono (Kd.R_far (p := ⟨g4, 1, none⟩) (Kd.R_far (p := ⟨g4, 0, none⟩) (Kd.R_drewN HO.out _) (fun _ hk => hk.1) _) (fun _ hk => hk.1) _) (fun _ _ => trivial), below_set (below_set (pw_below_drewN HB.out _) GE4.out) GE4.out⟩
    | true =>
     rw [if_pos rfl] at h
     obtain ⟨⟨n0, n1, n2, n3⟩, hn, h2⟩ := Option.bind_eq_some_iff.mp h
     clear h
     have HN := Aside0.mk hn
     have H := Aside0.mk (show impl_row.l0 T ⟨#[111, 114]⟩ ⟨#[32, 111, 114, 32]⟩ k1 ⟨#[111, 114]⟩ [⟨ex, ek⟩, ⟨n0, n1⟩] n2 n3 = some (r1, r2, r3, r4) from h2)
     clear hn h2
     go_wp2_with (first
      | (go_at_call 87; refine (strings_CutPrefix.calls rest ⟨#[32, 111, 114, 32]⟩ more true _ HC.out).mono ?_; rintro e w' ⟨rfl, ⟨nd, rfl⟩⟩)
      | ((with_reducible refine gate_dst (N := 13) rfl ?_); refine box_event ?hg (N := 13) ?hd (cs := #[.string (⟨#[]⟩ : ByteArray), .slice none 0 0]) (t := 55) ?hr ?_; (case hd => rfl); (case hg => rfl); (case hr => first | (go_simp; done) | (go_simp; rfl)); intro g13 hg w4 hbox hb; have BW := Aside0.mk (show Below wr.heap.size wr w4 from below_step (pw_below_drewN (Below.refl wr.heap.size wr) _) hb); have BK13 := Aside0.mk hbox; have GE13 := Aside0.mk (show w.heap.size ≤ g13 by (rw [hg]; exact HB.out.size)); have N413 := Aside0.mk (show g4 ≠ g13 by (rw [hg]; exact Nat.ne_of_lt (blk_lt BK4.out))); have n813 : g8 ≠ g13 := (by rw [hg]; exact Nat.ne_of_lt (blk_lt BK8.out)); have N813 := Aside0.mk n813; have n138 : g13 ≠ g8 := fun e_ => n813 e_.symm; have GW := Aside0.mk (show wr.heap.size ≤ g13 by (rw [hg]; exact Nat.le_refl _)); clear hbox hb hg)
      | (go_at_call 86; refine (HT.out more n0 n1 n2 n3 _ HN.out).mono ?_; rintro e w5 ⟨v5, rfl, ho5, hb⟩; have HN5 := Aside0.mk (Kd.R_mono (Kd.R_bound (Kd.R_newB ho5 BK13.out)) (ok' := fun k_ => (k_ ≠ g4 ∧ k_ ≠ g8) ∧ k_ ≠ g13) (fun k_ hk => ⟨⟨fun e_ => absurd hk.2.1 (by rw [e_]; exact Nat.not_le_of_lt (Nat.lt_of_lt_of_le (blk_lt BK4.out) BW.out.size)), fun e_ => absurd hk.2.1 (by rw [e_]; exact Nat.not_le_of_lt (Nat.lt_of_lt_of_le (blk_lt BK8.out) BW.out.size))⟩, hk.1.2⟩)); have HN5 := Aside0.mk (Kd.R_lower HN5.out (Nat.le_trans HB.out.size BW.out.size)); have BK135 := Aside0.mk (blk_below BK13.out hb); have BW5 := Aside0.mk (below_step BW.out hb); clear ho5 hb; obtain ⟨A5, c5, ev5⟩ := Kd.R_slice HN5.out; subst ev5; have i130 : w5.cell? ⟨g13, 0, none⟩ = some (.string (⟨#[]⟩ : ByteArray)) := (blk_cell BK135.out 0).trans rfl; have i131 : w5.cell? ⟨g13, 1, none⟩ = some (.slice none 0 0) := (blk_cell BK135.out 1).trans rfl; have j130 := blk_frozen BK135.out 0; have j131 := blk_frozen BK135.out 1; have BK85 := Aside0.mk (blk_below BK8.out BW5.out); have i80 : w5.cell? ⟨g8, 0, none⟩ = some (.string ex) := (blk_cell BK85.out 0).trans rfl; have i81 : w5.cell? ⟨g8, 1, none⟩ = some (.slice A ek.length c) := (blk_cell BK85.out 1).trans rfl)
      | ((with_reducible refine gate_dst (N := 44) rfl ?_); refine Kd.R_lit k55 (w0 := w) w.heap.size 55 ?hg (N := 44) ?hd (xs := ([⟨ex, ek⟩, ⟨n0, n1⟩] : List S55)) (inner := [.string ex, .slice A ek.length c, .string n0, .slice A5 n1.length c5]) (ok := fun k_ => k_ ≠ g4 ∧ k_ ≠ g8) (okp := fun k_ => k_ ≠ g4 ∧ k_ ≠ g8) ?hr ?hp (fun _ hk => hk) ?hf ?hB ?hs (by simp) ?_; (case hd => rfl); (case hg => rfl); (case hr => first | (go_simp; done) | (go_simp; rfl)); (case hp => exact Reps.c2 (k55_mkM _ _ _ (⟨ex, ek⟩ : S55) (Kd.R_mono (Kd.R_far (p := ⟨g13, 1, none⟩) (Kd.R_far (p := ⟨g13, 0, none⟩) (Kd.R_below (Kd.R_elderB HO.out g13 GW.out) BW5.out) (fun _ hk => hk.2) (.string n0)) (fun _ hk => hk.2) (.slice A5 n1.length c5)) (fun _ hk => hk.1))) (Reps.c2 (k55_mkM _ _ _ (⟨n0, n1⟩ : S55) (Kd.R_far (p := ⟨g13, 1, none⟩) (Kd.R_far (p := ⟨g13, 0, none⟩) HN5.out (fun _ hk => hk.2) (.string n0)) (fun _ hk => hk.2) (.slice A5 n1.length c5) |> fun z => Kd.R_mono z (fun _ hk => hk.1))) (Reps.none _ _))); (case hf => exact ⟨Nat.ne_of_gt (blk_lt (blk_far (blk_far (blk_below BK4.out BW5.out) N413.out _) N413.out _)), Nat.ne_of_gt (blk_lt (blk_far (blk_far BK85.out N813.out _) N813.out _))⟩); (case hB => exact below_set (below_set (below_step HB.out BW5.out) GE13.out) GE13.out); (case hs => exact (below_set (below_set (below_step HB.out BW5.out) GE13.out) GE13.out).size); intro v9 w9 ho9 hb9 hg9 hn9; have HO9 := Aside0.mk ho9; have HB9 := Aside0.mk hb9; have BK89 := Aside0.mk (blk_grown (blk_far (blk_far BK85.out N813.out _) N813.out _) hg9 (by simp)); have BK49 := Aside0.mk (blk_grown (blk_far (blk_far (blk_below BK4.out BW5.out) N413.out _) N413.out _) hg9 (by simp)); clear ho9 hb9 hg9 hn9; obtain ⟨A9, c9, ev9⟩ := Kd.R_slice HO9.out; replace ev9 : v9 = .slice A9 2 c9 := ev9; subst ev9; have m80 : w9.cell? ⟨g8, 0, none⟩ = some (.string ex) := (blk_cell BK89.out 0).trans rfl; have m81 : w9.cell? ⟨g8, 1, none⟩ = some (.slice A ek.length c) := (blk_cell BK89.out 1).trans rfl; have o80 := blk_frozen BK89.out 0; have o81 := blk_frozen BK89.out 1))
     go_roundg k1
     case measure => have := HK.out; omega
     case rel =>
      refine ⟨⟨#[111, 114]⟩, [⟨ex, ek⟩, ⟨n0, n1⟩], A9, c9, n2, n3, rfl, rfl, H, ⟨by have := HK.out; omega⟩, ⟨?_⟩, ⟨blk_far (blk_far BK49.out N48.out _) N48.out _⟩, ⟨?_⟩, ⟨below_set (below_set HB9.out GE8.out) GE8.out⟩⟩
      ·exact blk_put (cs := #[.string ⟨#[111, 114]⟩, .slice A ek.length c]) (blk_put (cs := #[.string ex, .slice A ek.length c]) BK89.out 0 _ rfl) 1 _ rfl
      ·exact Kd.R_far (p := ⟨g8, 1, none⟩) (Kd.R_far (p := ⟨g8, 0, none⟩) HO9.out (fun _ hk => hk.2) _) (fun _ hk => hk.2) _
/-- Terms with 'and' between them, as takeRow$1 reads them. -/
abbrev andRow (T : TkF) (k : Nat) : TkF := impl_row.f T ⟨#[97, 110, 100]⟩ ⟨#[32, 97, 110, 100, 32]⟩ k
abbrev orRow (T : TkF) (k : Nat) : TkF := impl_row.f (andRow T k) ⟨#[111, 114]⟩ ⟨#[32, 111, 114, 32]⟩ k
set_option maxHeartbeats 8000000 in
set_option maxRecDepth 100000 in
theorem impl_takeRow1.calls (T : TkF) (HT : Aside0 (TkOk 85 T)) (k : Nat) (a0 : ByteArray) (r1 : ByteArray) (r2 : List (S55)) (r3 : ByteArray) (r4 : Bool) (w : World) (h : andRow T k a0 = some (r1, r2, r3, r4)) :
  Calls Try.prog 86 #[.string a0] w fun e w' => ∃ v1_ : Value, e = .returned (.tuple #[.agg #[.string r1, v1_], .string r3, .bool r4]) ∧ Kd.R k55 55 w' w.heap.size (fun _ => True) v1_ r2 ∧ Below w.heap.size w w' := by
 have hu55 := Try.underlying55; have HB := Aside0.mk (Below.refl w.heap.size w)
 have A20 : andRow T k a0 = some (r1, r2, r3, r4) := h
 clear h
 have A2 := Aside0.mk A20; clear A20
 go_enter Try.func86, Try.ntmps86
 go_wp2_with (first | ((with_reducible refine gate_dst (N := 2) rfl ?_); refine box_event ?hg (N := 2) ?hd (cs := #[.string (⟨#[]⟩ : ByteArray), .slice none 0 0]) (t := 55) ?hr ?_; (case hd => rfl); (case hg => rfl); (case hr => first | (go_simp; done) | (go_simp; rfl)); intro gb187 hg w3 hbox hb; have BK187 := Aside0.mk (hbox); have GW187 := Aside0.mk ((by rw [hg]; exact (below_size (by repeat first | (with_reducible first | exact HB.out | apply below_alloc | apply pw_below_drewN | apply below_drew1) | exact HB.out)) : w.heap.size ≤ gb187)); have GE187 := Aside0.mk ((by rw [hg]; exact (below_size (by repeat first | (with_reducible first | exact HB.out | apply below_alloc | apply pw_below_drewN | apply below_drew1) | exact HB.out)) : w.heap.size ≤ gb187)); replace HB := Aside0.mk (below_step (by repeat first | (with_reducible first | exact HB.out | apply below_alloc | apply pw_below_drewN | apply below_drew1) | exact HB.out) hb); clear hb hbox hg) | ((with_reducible refine gate_callee (f := 69) rfl ?_); refine goesL_ (some 6) rfl rfl Try.func69 (by kernel_rfl) rfl #[.string a0, .string (⟨#[97, 110, 100]⟩ : ByteArray)] rfl (by (try simp only [List.map_toArray, List.map_cons, List.map_nil]); first | done | rfl) ?_; (with_reducible refine (impl_row.and T HT k a0 r1 r2 r3 r4 _ A2.out).mono ?_); rintro e w4 ⟨v190, rfl, ho0, hb⟩; refine ⟨_, rfl, ?_⟩; have HO191 := Aside0.mk (Kd.R_lower (Kd.R_newB ho0 (g := gb187) (o := .cells #[.string (⟨#[]⟩ : ByteArray), .slice none 0 0] 55 (0, 0)) (by (with_reducible repeat first | apply blk_drewN | apply blk_drew | apply blk_alloc); exact BK187.out)) (below_size (by repeat first | (with_reducible first | exact HB.out | apply below_alloc | apply pw_below_drewN | apply below_drew1 | refine below_set ?_ GE187.out) | exact HB.out))); replace BK187 := Aside0.mk (blk_below (g := gb187) (o := .cells #[.string (⟨#[]⟩ : ByteArray), .slice none 0 0] 55 (0, 0)) (by (with_reducible repeat first | apply blk_drewN | apply blk_drew | apply blk_alloc); exact BK187.out) hb); replace HB := Aside0.mk (below_step (by repeat first | (with_reducible first | exact HB.out | apply below_alloc | apply pw_below_drewN | apply below_drew1 | refine below_set ?_ GE187.out) | exact HB.out) hb); (try clear hb); (try clear ho0); have hcz5_0 : w4.cell? ⟨gb187, 0, none⟩ = some (.string (⟨#[]⟩ : ByteArray)) := (blk_cell BK187.out 0).trans rfl; have hcz5_1 : w4.cell? ⟨gb187, 1, none⟩ = some (.slice none 0 0) := (blk_cell BK187.out 1).trans rfl; have hfz5_0 := blk_frozen BK187.out 0; have hfz5_1 := blk_frozen BK187.out 1; obtain ⟨Ao6, co6, eo6⟩ := Kd.R_slice HO191.out; subst eo6))
 refine bodyPost_ret (results_ctt rfl _ _ gb187 55 #[.string r1, .slice Ao6 r2.length co6] (0, 0) _ rfl (by (with_reducible repeat first | apply blk_drewN | apply blk_drew | apply blk_alloc); refine blk_put (cs := #[.string r1, .slice none 0 0]) ?_ 1 _ rfl; (with_reducible repeat first | apply blk_drewN | apply blk_drew | apply blk_alloc); refine blk_put (cs := #[.string (⟨#[]⟩ : ByteArray), .slice none 0 0]) ?_ 0 _ rfl; (with_reducible repeat first | apply blk_drewN | apply blk_drew | apply blk_alloc); exact BK187.out) Try.underlying55 rfl (by kernel_rfl)) rfl ?_
 exact ⟨_, by first | rfl | (simp [errW_none, errW_some] <;> rfl) | (simp [*, errW_none, errW_some] <;> rfl), by (with_reducible repeat first | apply Kd.R_alloc | apply Kd.R_drewN | apply Kd.R_drew); exact Kd.R_mono (Kd.R_far (p := ⟨gb187, 1, none⟩) (Kd.R_far (p := ⟨gb187, 0, none⟩) (Kd.R_mono HO191.out (fun k_ hk => (⟨hk, hk.2⟩ : _ ∧ k_ ≠ gb187))) (fun _ hk => hk.2) (.string r1)) (fun _ hk => hk.2) (.slice Ao6 r2.length co6)) (fun _ hk => trivial), by repeat (first | (with_reducible first | exact HB.out | apply below_alloc | apply pw_below_drewN | apply below_drew1 | refine below_set ?_ GE187.out) | exact HB.out)⟩
theorem orRow.calls (T : TkF) (HT : Aside0 (TkOk 85 T)) (k : Nat) (s r1 : ByteArray) (r2 : List S55) (r3 : ByteArray) (r4 : Bool) (w : World) (h : orRow T k s = some (r1, r2, r3, r4)) :
  Calls Try.prog 69 #[.string s, .string ⟨#[111, 114]⟩] w fun e w' => ∃ v1_ : Value, e = .returned (.tuple #[.agg #[.string r1, v1_], .string r3, .bool r4]) ∧ Kd.R k55 55 w' w.heap.size (fun _ => True) v1_ r2 ∧ Below w.heap.size w w' :=
 impl_row.or (andRow T k) ⟨fun s r1 r2 r3 r4 w h => impl_takeRow1.calls T HT k s r1 r2 r3 r4 w h⟩ k s r1 r2 r3 r4 w h
def impl_takeFactor.j1 : Nat → ByteArray → ByteArray → Bool → Int → Option (ByteArray × (List (S55)) × ByteArray × Bool)
 | 0, _, _, _, _ => none
 | k + 1, x0, x16, x17, x18 => if 0 ≤ x18 then (if x18 ≤ (x16.size : Int) then ((impl_nameOk.f k (x16.extract 0 (x18 : Int).toNat)).bind fun t186 => (if t186 = true then (if x17 = true then (if 1 + (x18 : Int).toNat ≤ 9223372036854775807 then (some ((⟨#[64]⟩ : ByteArray) ++ (x16.extract 0 (x18 : Int).toNat), ([] : List (S55)), x16.extract (x18 : Int).toNat x16.size, true)) else (none)) else (some (x16.extract 0 (x18 : Int).toNat, ([] : List (S55)), x16.extract (x18 : Int).toNat x16.size, true))) else (some ((⟨#[]⟩ : ByteArray), ([] : List (S55)), x0, false)))) else (none)) else (none)
def impl_takeFactor.l0 : Nat → ByteArray → ByteArray → Bool → Int → Option (ByteArray × (List (S55)) × ByteArray × Bool)
 | 0, _, _, _, _ => none
 | k + 1, x0, x16, x17, x18 => if x18 < (x16.size : Int) then (if 0 ≤ x18 then (if (bt x16 x18) ≥ 97 then (if (bt x16 x18) ≤ 122 then (impl_takeFactor.l0 k x0 x16 x17 (wrap64 (x18 + 1))) else (impl_takeFactor.j1 k x0 x16 x17 x18)) else (impl_takeFactor.j1 k x0 x16 x17 x18)) else (none)) else (impl_takeFactor.j1 k x0 x16 x17 x18)
def impl_takeFactor.f : Nat → ByteArray → Option (ByteArray × (List (S55)) × ByteArray × Bool)
 | 0, _ => none
 | k + 1, a0 => (strings_CutPrefix.f a0 (⟨#[110, 111, 116, 32]⟩ : ByteArray)).bind fun bt164 => (if bt164.2 = true then ((impl_takeFactor.f k bt164.1).bind fun bt166 => (some ((⟨#[110, 111, 116]⟩ : ByteArray), ([⟨bt166.1, bt166.2.1⟩] : List (S55)), bt166.2.2.1, bt166.2.2.2))) else ((strings_CutPrefix.f a0 (⟨#[40]⟩ : ByteArray)).bind fun bt173 => (if bt173.2 = true then ((orRow (impl_takeFactor.f k) k bt173.1).bind fun bt175 => ((strings_CutPrefix.f bt175.2.2.1 (⟨#[41]⟩ : ByteArray)).bind fun bt182 => (if bt175.2.2.2 = true then (some (bt175.1, bt175.2.1, bt182.1, bt182.2)) else (some (bt175.1, bt175.2.1, bt182.1, false))))) else ((strings_CutPrefix.f a0 (⟨#[64]⟩ : ByteArray)).bind fun bt184 => (impl_takeFactor.l0 k a0 bt184.1 bt184.2 0)))))
theorem impl_takeFactor.mono_j : ∀ k, (∀ y0 y1 y2 y3, LeO (impl_takeFactor.j1 k y0 y1 y2 y3) (impl_takeFactor.j1 (k + 1) y0 y1 y2 y3))
 | 0 => fun _ _ _ _ r h => by simp [impl_takeFactor.j1] at h
 | k + 1 => fun y0 y1 y2 y3 => by
  unfold impl_takeFactor.j1
  exact LeO.ite (LeO.ite (LeO.bind (impl_nameOk.mono _ _) fun _ => LeO.refl _) (LeO.refl _)) (LeO.refl _)
theorem impl_takeFactor.mono_l0 : ∀ k, (∀ y0 y1 y2 y3, LeO (impl_takeFactor.l0 k y0 y1 y2 y3) (impl_takeFactor.l0 (k + 1) y0 y1 y2 y3))
 | 0 => fun _ _ _ _ r h => by simp [impl_takeFactor.l0] at h
 | k + 1 => fun y0 y1 y2 y3 => by
  have ih := impl_takeFactor.mono_l0 k
  have jh := impl_takeFactor.mono_j k
  unfold impl_takeFactor.l0
  exact LeO.ite (LeO.ite (LeO.ite (LeO.ite (ih _ _ _ _) (jh _ _ _ _)) (jh _ _ _ _)) (LeO.refl _)) (jh _ _ _ _)
theorem impl_takeFactor.mono : ∀ k, LeT (impl_takeFactor.f k) (impl_takeFactor.f (k + 1))
 | 0 => fun _ r h => by simp [impl_takeFactor.f] at h
 | k + 1 => fun s => by
  have ih := impl_takeFactor.mono k
  unfold impl_takeFactor.f
  exact LeO.bind (LeO.refl _) fun b => LeO.ite (LeO.bind (ih _) fun t => LeO.refl _) (LeO.bind (LeO.refl _) fun c => LeO.ite (LeO.bind (impl_row.mono (impl_row.mono ih _ _ k) _ _ k _) fun t => LeO.refl _) (LeO.bind (LeO.refl _) fun d => impl_takeFactor.mono_l0 k _ _ _ _))
def impl_takeFactor.T18 : Bool × List (List Nat × List Nat) := (true, [([], []), ([0], [0]), ([1], [1]), ([], []), ([], []), ([3, 4], [3, 4]), ([2, 0, 1, 2], [2]), ([5, 6, 0, 1, 2, 3, 4, 5, 6], [5]), ([7, 0, 1, 2, 3, 4, 5, 6, 7], [])])
def impl_takeFactor.B18 : List Nat := [0, 1, 3, 0, 0, 24, 7, 127, 255]
theorem impl_takeFactor.tab18 : rtab .any (opsOf Try.f85 18) = impl_takeFactor.T18 := by kernel_rfl
theorem impl_takeFactor.bits18 : waitsOk impl_takeFactor.T18.2 impl_takeFactor.B18 = true := by kernel_rfl
def impl_takeFactor.T19 : Bool × List (List Nat × List Nat) := (true, [([], []), ([0], [0]), ([], []), ([], []), ([2, 3], [2, 3]), ([1, 0, 1], [1]), ([4, 5, 0, 1, 2, 3, 4, 5], [4]), ([6, 0, 1, 2, 3, 4, 5, 6], [])])
def impl_takeFactor.B19 : List Nat := [0, 1, 0, 0, 12, 3, 63, 127]
theorem impl_takeFactor.tab19 : rtab .any (opsOf Try.f85 19) = impl_takeFactor.T19 := by kernel_rfl
theorem impl_takeFactor.bits19 : waitsOk impl_takeFactor.T19.2 impl_takeFactor.B19 = true := by kernel_rfl
set_option maxHeartbeats 8000000 in
set_option maxRecDepth 100000 in
theorem impl_takeFactor.calls (k : Nat) : ∀ (a0 : ByteArray) (r1 : ByteArray) (r2 : List (S55)) (r3 : ByteArray) (r4 : Bool) (w : World) (h : impl_takeFactor.f k a0 = some (r1, r2, r3, r4)),
  Calls Try.prog 85 #[.string a0] w fun e w' => ∃ v1_ : Value, e = .returned (.tuple #[.agg #[.string r1, v1_], .string r3, .bool r4]) ∧ Kd.R k55 55 w' w.heap.size (fun _ => True) v1_ r2 ∧ Below w.heap.size w w' := by
 induction k using Nat.strongRecOn with
 | _ k ih =>
 intro a0 r1 r2 r3 r4 w h
 cases k with
 | zero => exact absurd h (by simp [impl_takeFactor.f])
 | succ k =>
 simp only [impl_takeFactor.f] at h
 have hu55 := Try.underlying55; have HB := Aside0.mk (Below.refl w.heap.size w)
 have H : ((strings_CutPrefix.f a0 (⟨#[110, 111, 116, 32]⟩ : ByteArray)).bind fun bt164 => (if bt164.2 = true then ((impl_takeFactor.f k bt164.1).bind fun bt166 => (some ((⟨#[110, 111, 116]⟩ : ByteArray), ([⟨bt166.1, bt166.2.1⟩] : List (S55)), bt166.2.2.1, bt166.2.2.2))) else ((strings_CutPrefix.f a0 (⟨#[40]⟩ : ByteArray)).bind fun bt173 => (if bt173.2 = true then ((orRow (impl_takeFactor.f k) k bt173.1).bind fun bt175 => ((strings_CutPrefix.f bt175.2.2.1 (⟨#[41]⟩ : ByteArray)).bind fun bt182 => (if bt175.2.2.2 = true then (some (bt175.1, bt175.2.1, bt182.1, bt182.2)) else (some (bt175.1, bt175.2.1, bt182.1, false))))) else ((strings_CutPrefix.f a0 (⟨#[64]⟩ : ByteArray)).bind fun bt184 => (impl_takeFactor.l0 k a0 bt184.1 bt184.2 0)))))) = some (r1, r2, r3, r4) := h
 clear h
 replace H := Option.bind_eq_some_iff.mp H
 obtain ⟨⟨t164, t165⟩, A20, H⟩ := H
 replace H : (if t165 = true then ((impl_takeFactor.f k t164).bind fun bt166 => (some ((⟨#[110, 111, 116]⟩ : ByteArray), ([⟨bt166.1, bt166.2.1⟩] : List (S55)), bt166.2.2.1, bt166.2.2.2))) else ((strings_CutPrefix.f a0 (⟨#[40]⟩ : ByteArray)).bind fun bt173 => (if bt173.2 = true then ((orRow (impl_takeFactor.f k) k bt173.1).bind fun bt175 => ((strings_CutPrefix.f bt175.2.2.1 (⟨#[41]⟩ : ByteArray)).bind fun bt182 => (if bt175.2.2.2 = true then (some (bt175.1, bt175.2.1, bt182.1, bt182.2)) else (some (bt175.1, bt175.2.1, bt182.1, false))))) else ((strings_CutPrefix.f a0 (⟨#[64]⟩ : ByteArray)).bind fun bt184 => (impl_takeFactor.l0 k a0 bt184.1 bt184.2 0))))) = some (r1, r2, r3, r4) := H
 have A2 := Aside0.mk A20; clear A20
 by_cases c3 : t165 = true
 ·subst c3
  have H1 : ((impl_takeFactor.f k t164).bind fun bt166 => (some ((⟨#[110, 111, 116]⟩ : ByteArray), ([⟨bt166.1, bt166.2.1⟩] : List (S55)), bt166.2.2.1, bt166.2.2.2))) = some (r1, r2, r3, r4) := by rw [if_pos rfl] at H; exact H
  clear H; have H := H1; clear H1
  replace H := Option.bind_eq_some_iff.mp H
  obtain ⟨⟨t166, t167, t170, t171⟩, A40, H⟩ := H
  replace H : (some ((⟨#[110, 111, 116]⟩ : ByteArray), ([⟨t166, t167⟩] : List (S55)), t170, t171)) = some (r1, r2, r3, r4) := H
  have A4 := Aside0.mk A40; clear A40
  simp only [Option.some.injEq, Prod.mk.injEq] at H
  obtain ⟨rfl, rfl, rfl, rfl⟩ := H
  go_enter Try.func85, Try.ntmps85
  go_wp2_with (first | ((with_reducible refine gate_dst (N := 2) rfl ?_); refine box_event ?hg (N := 2) ?hd (cs := #[.string (⟨#[]⟩ : ByteArray), .slice none 0 0]) (t := 55) ?hr ?_; (case hd => rfl); (case hg => rfl); (case hr => first | (go_simp; done) | (go_simp; rfl)); intro gb163 hg w5 hbox hb; have BK163 := Aside0.mk (hbox); have GW163 := Aside0.mk ((by rw [hg]; exact (below_size (by repeat first | (with_reducible first | exact HB.out | apply below_alloc | apply pw_below_drewN | apply below_drew1) | exact HB.out)) : w.heap.size ≤ gb163)); have GE163 := Aside0.mk ((by rw [hg]; exact (below_size (by repeat first | (with_reducible first | exact HB.out | apply below_alloc | apply pw_below_drewN | apply below_drew1) | exact HB.out)) : w.heap.size ≤ gb163)); replace HB := Aside0.mk (below_step (by repeat first | (with_reducible first | exact HB.out | apply below_alloc | apply pw_below_drewN | apply below_drew1) | exact HB.out) hb); clear hb hbox hg) | ((with_reducible refine gate_callee (f := 87) rfl ?_); refine goesL_ (some 22) rfl rfl Try.func87 (by kernel_rfl) rfl #[.string a0, .string (⟨#[110, 111, 116, 32]⟩ : ByteArray)] rfl (by (try simp only [List.map_toArray, List.map_cons, List.map_nil]); first | done | rfl) ?_; (with_reducible refine (strings_CutPrefix.calls a0 (⟨#[110, 111, 116, 32]⟩ : ByteArray) t164 true _ A2.out).mono ?_); rintro e w' ⟨rfl, ⟨nd, rfl⟩⟩; refine ⟨_, rfl, ?_⟩; (try (rw [drewN_self w5]; generalize hq_ : World.drewN w5 _ = w5; have n0_ : Aside0 (w5.heap[gb163]? = some (.cells #[.string (⟨#[]⟩ : ByteArray), .slice none 0 0] 55 (0, 0))) := ⟨by rw [← hq_]; exact (by (with_reducible repeat first | apply blk_drewN | apply blk_drew | apply blk_alloc); exact BK163.out)⟩; have n1_ : Aside0 (Below w.heap.size w w5) := ⟨by rw [← hq_]; exact (by repeat first | (with_reducible first | exact HB.out | apply below_alloc | apply pw_below_drewN | apply below_drew1 | refine below_set ?_ GE163.out) | exact HB.out)⟩; clear BK163 HB hq_; have BK163 := n0_; have HB := n1_; clear n0_ n1_; (try (have hcq1_ : w5.cell? ⟨gb163, 0, none⟩ = some (.string (⟨#[]⟩ : ByteArray)) := (blk_cell BK163.out 0).trans rfl; have hfq1_ := blk_frozen BK163.out 0)); (try (have hcq2_ : w5.cell? ⟨gb163, 1, none⟩ = some (.slice none 0 0) := (blk_cell BK163.out 1).trans rfl; have hfq2_ := blk_frozen BK163.out 1))))) | ((with_reducible refine gate_callee (f := 85) rfl ?_); refine goesL_ (some 28) rfl rfl Try.func85 (by kernel_rfl) rfl #[.string t164] rfl (by (try simp only [List.map_toArray, List.map_cons, List.map_nil]); first | done | rfl) ?_; (with_reducible refine (ih k (by omega) t164 t166 t167 t170 t171 _ A4.out).mono ?_); rintro e w6 ⟨v168, rfl, ho0, hb⟩; refine ⟨_, rfl, ?_⟩; have HO169 := Aside0.mk (Kd.R_lower (Kd.R_newB ho0 (g := gb163) (o := .cells #[.string (⟨#[]⟩ : ByteArray), .slice none 0 0] 55 (0, 0)) (by (with_reducible repeat first | apply blk_drewN | apply blk_drew | apply blk_alloc); exact BK163.out)) (below_size (by repeat first | (with_reducible first | exact HB.out | apply below_alloc | apply pw_below_drewN | apply below_drew1 | refine below_set ?_ GE163.out) | exact HB.out))); replace BK163 := Aside0.mk (blk_below (g := gb163) (o := .cells #[.string (⟨#[]⟩ : ByteArray), .slice none 0 0] 55 (0, 0)) (by (with_reducible repeat first | apply blk_drewN | apply blk_drew | apply blk_alloc); exact BK163.out) hb); replace HB := Aside0.mk (below_step (by repeat first | (with_reducible first | exact HB.out | apply below_alloc | apply pw_below_drewN | apply below_drew1 | refine below_set ?_ GE163.out) | exact HB.out) hb); (try clear hb); (try clear ho0)) | ((with_reducible refine gate_dst (N := 7) rfl ?_); refine box_event ?hg (N := 7) ?hd (cs := #[.string (⟨#[]⟩ : ByteArray), .slice none 0 0]) (t := 55) ?hr ?_; (case hd => rfl); (case hg => rfl); (case hr => first | (go_simp; done) | (go_simp; rfl)); intro gb172 hg w7 hbox hb; replace HO169 := Aside0.mk (Kd.R_below (Kd.R_elderB (by (with_reducible repeat first | apply Kd.R_alloc | apply Kd.R_drewN | apply Kd.R_drew); exact HO169.out) gb172 (Nat.le_of_eq hg.symm)) hb); have BK172 := Aside0.mk (hbox); have GW172 := Aside0.mk ((by rw [hg]; exact (below_size (by repeat first | (with_reducible first | exact HB.out | apply below_alloc | apply pw_below_drewN | apply below_drew1 | refine below_set ?_ GE163.out) | exact HB.out)) : w.heap.size ≤ gb172)); have GE172 := Aside0.mk ((by rw [hg]; exact (below_size (by repeat first | (with_reducible first | exact HB.out | apply below_alloc | apply pw_below_drewN | apply below_drew1 | refine below_set ?_ GE163.out) | exact HB.out)) : w.heap.size ≤ gb172)); replace HB := Aside0.mk (below_step (by repeat first | (with_reducible first | exact HB.out | apply below_alloc | apply pw_below_drewN | apply below_drew1 | refine below_set ?_ GE163.out) | exact HB.out) hb); have NB163_172 := Aside0.mk ((by rw [hg]; exact Nat.ne_of_lt (blk_lt (g := gb163) (o := .cells #[.string (⟨#[]⟩ : ByteArray), .slice none 0 0] 55 (0, 0)) (by (with_reducible repeat first | apply blk_drewN | apply blk_drew | apply blk_alloc); exact BK163.out)) : gb163 ≠ gb172)); have NB172_163 := Aside0.mk ((by rw [hg]; exact Nat.ne_of_gt (blk_lt (g := gb163) (o := .cells #[.string (⟨#[]⟩ : ByteArray), .slice none 0 0] 55 (0, 0)) (by (with_reducible repeat first | apply blk_drewN | apply blk_drew | apply blk_alloc); exact BK163.out)) : gb172 ≠ gb163)); replace BK163 := Aside0.mk (blk_below (g := gb163) (o := .cells #[.string (⟨#[]⟩ : ByteArray), .slice none 0 0] 55 (0, 0)) (by (with_reducible repeat first | apply blk_drewN | apply blk_drew | apply blk_alloc); exact BK163.out) hb); clear hb hbox hg; have hnb8 := NB172_163.out; have hnc8 := NB163_172.out; have hcz9_0 : w7.cell? ⟨gb172, 0, none⟩ = some (.string (⟨#[]⟩ : ByteArray)) := (blk_cell BK172.out 0).trans rfl; have hcz9_1 : w7.cell? ⟨gb172, 1, none⟩ = some (.slice none 0 0) := (blk_cell BK172.out 1).trans rfl; have hfz9_0 := blk_frozen BK172.out 0; have hfz9_1 := blk_frozen BK172.out 1; obtain ⟨Ao10, co10, eo10⟩ := Kd.R_slice HO169.out; subst eo10; have hcz11_0 : w7.cell? ⟨gb163, 0, none⟩ = some (.string (⟨#[]⟩ : ByteArray)) := (blk_cell BK163.out 0).trans rfl; have hcz11_1 : w7.cell? ⟨gb163, 1, none⟩ = some (.slice none 0 0) := (blk_cell BK163.out 1).trans rfl; have hfz11_0 := blk_frozen BK163.out 0; have hfz11_1 := blk_frozen BK163.out 1) | ((with_reducible refine gate_dst (N := 33) rfl ?_); refine Kd.R_lit k55 (w0 := w) w.heap.size 55 ?hg (N := 33) ?hd (xs := ([⟨t166, t167⟩] : List S55)) (inner := [.string t166, .slice Ao10 t167.length co10]) (ok := fun k_ => k_ ≠ gb163) (okp := fun k_ => k_ ≠ gb163) ?hr ?hp (fun _ hk => hk) ?hf ?hB ?hs (by simp) ?_; (case hd => rfl); (case hg => rfl); (case hr => first | (go_simp; done) | (go_simp; rfl)); (case hp => exact Reps.c2 (k55_mkM _ _ _ (⟨t166, t167⟩ : S55) (Kd.R_mono (Kd.R_far (p := ⟨gb172, 1, none⟩) (Kd.R_far (p := ⟨gb172, 0, none⟩) HO169.out (fun _ hk => hk.2) (.string t166)) (fun _ hk => hk.2) (.slice Ao10 t167.length co10)) (fun _ hk => hk.1.2))) (Reps.none _ _)); (case hf => exact Nat.ne_of_gt (blk_lt (blk_far (blk_far BK163.out NB163_172.out _) NB163_172.out _))); (case hB => (repeat (first | (with_reducible first | exact HB.out | apply below_alloc | apply pw_below_drewN | apply below_drew1 | refine below_set ?_ GE163.out | refine below_set ?_ GE172.out) | exact HB.out))); (case hs => exact below_size (by (repeat (first | (with_reducible first | exact HB.out | apply below_alloc | apply pw_below_drewN | apply below_drew1 | refine below_set ?_ GE163.out | refine below_set ?_ GE172.out) | exact HB.out)))); intro v9 w9 ho9 hb9 hg9 hn9; have HO9 := Aside0.mk ho9; have HB9 := Aside0.mk hb9; have BK9 := Aside0.mk (blk_grown (blk_far (blk_far BK163.out NB163_172.out _) NB163_172.out _) hg9 (by simp)); clear ho9 hb9 hg9 hn9; obtain ⟨A9, c9, ev9⟩ := Kd.R_slice HO9.out; replace ev9 : v9 = .slice A9 1 c9 := ev9; subst ev9; have m80 : w9.cell? ⟨gb163, 0, none⟩ = some (.string (⟨#[]⟩ : ByteArray)) := (blk_cell BK9.out 0).trans rfl; have m81 : w9.cell? ⟨gb163, 1, none⟩ = some (.slice none 0 0) := (blk_cell BK9.out 1).trans rfl; have o80 := blk_frozen BK9.out 0; have o81 := blk_frozen BK9.out 1))
  refine bodyPost_ret (results_ctt rfl _ _ gb163 55 #[.string (⟨#[110, 111, 116]⟩ : ByteArray), .slice A9 1 c9] (0, 0) _ rfl (by refine blk_put (cs := #[.string (⟨#[110, 111, 116]⟩ : ByteArray), .slice none 0 0]) ?_ 1 _ rfl; refine blk_put (cs := #[.string (⟨#[]⟩ : ByteArray), .slice none 0 0]) ?_ 0 _ rfl; exact BK9.out) Try.underlying55 rfl (by kernel_rfl)) rfl ?_
  exact ⟨_, rfl, Kd.R_mono (Kd.R_far (p := ⟨gb163, 1, none⟩) (Kd.R_far (p := ⟨gb163, 0, none⟩) HO9.out (fun _ hk => hk) _) (fun _ hk => hk) _) (fun _ _ => trivial), below_set (below_set HB9.out GE163.out) GE163.out⟩
 ·replace c3 := Bool.eq_false_iff.mpr c3
  subst c3
  have H1 : ((strings_CutPrefix.f a0 (⟨#[40]⟩ : ByteArray)).bind fun bt173 => (if bt173.2 = true then ((orRow (impl_takeFactor.f k) k bt173.1).bind fun bt175 => ((strings_CutPrefix.f bt175.2.2.1 (⟨#[41]⟩ : ByteArray)).bind fun bt182 => (if bt175.2.2.2 = true then (some (bt175.1, bt175.2.1, bt182.1, bt182.2)) else (some (bt175.1, bt175.2.1, bt182.1, false))))) else ((strings_CutPrefix.f a0 (⟨#[64]⟩ : ByteArray)).bind fun bt184 => (impl_takeFactor.l0 k a0 bt184.1 bt184.2 0)))) = some (r1, r2, r3, r4) := by rw [if_neg (show ¬ (false = true) by decide)] at H; exact H
  clear H; have H := H1; clear H1
  replace H := Option.bind_eq_some_iff.mp H
  obtain ⟨⟨t173, t174⟩, A120, H⟩ := H
  replace H : (if t174 = true then ((orRow (impl_takeFactor.f k) k t173).bind fun bt175 => ((strings_CutPrefix.f bt175.2.2.1 (⟨#[41]⟩ : ByteArray)).bind fun bt182 => (if bt175.2.2.2 = true then (some (bt175.1, bt175.2.1, bt182.1, bt182.2)) else (some (bt175.1, bt175.2.1, bt182.1, false))))) else ((strings_CutPrefix.f a0 (⟨#[64]⟩ : ByteArray)).bind fun bt184 => (impl_takeFactor.l0 k a0 bt184.1 bt184.2 0))) = some (r1, r2, r3, r4) := H
  have A12 := Aside0.mk A120; clear A120
  by_cases c13 : t174 = true
  ·subst c13
   have H1 : ((orRow (impl_takeFactor.f k) k t173).bind fun bt175 => ((strings_CutPrefix.f bt175.2.2.1 (⟨#[41]⟩ : ByteArray)).bind fun bt182 => (if bt175.2.2.2 = true then (some (bt175.1, bt175.2.1, bt182.1, bt182.2)) else (some (bt175.1, bt175.2.1, bt182.1, false))))) = some (r1, r2, r3, r4) := by rw [if_pos rfl] at H; exact H
   clear H; have H := H1; clear H1
   replace H := Option.bind_eq_some_iff.mp H
   obtain ⟨⟨t175, t176, t179, t180⟩, A140, H⟩ := H
   replace H : ((strings_CutPrefix.f t179 (⟨#[41]⟩ : ByteArray)).bind fun bt182 => (if t180 = true then (some (t175, t176, bt182.1, bt182.2)) else (some (t175, t176, bt182.1, false)))) = some (r1, r2, r3, r4) := H
   have A14 := Aside0.mk A140; clear A140
   replace H := Option.bind_eq_some_iff.mp H
   obtain ⟨⟨t182, t183⟩, A150, H⟩ := H
   replace H : (if t180 = true then (some (t175, t176, t182, t183)) else (some (t175, t176, t182, false))) = some (r1, r2, r3, r4) := H
   have A15 := Aside0.mk A150; clear A150
   by_cases c16 : t180 = true
   ·subst c16
    have H1 : (some (t175, t176, t182, t183)) = some (r1, r2, r3, r4) := by rw [if_pos rfl] at H; exact H
    clear H; have H := H1; clear H1
    simp only [Option.some.injEq, Prod.mk.injEq] at H
    obtain ⟨rfl, rfl, rfl, rfl⟩ := H
    go_enter Try.func85, Try.ntmps85
    go_wp2_with (first | ((with_reducible refine gate_dst (N := 2) rfl ?_); refine box_event ?hg (N := 2) ?hd (cs := #[.string (⟨#[]⟩ : ByteArray), .slice none 0 0]) (t := 55) ?hr ?_; (case hd => rfl); (case hg => rfl); (case hr => first | (go_simp; done) | (go_simp; rfl)); intro gb163 hg w17 hbox hb; have BK163 := Aside0.mk (hbox); have GW163 := Aside0.mk ((by rw [hg]; exact (below_size (by repeat first | (with_reducible first | exact HB.out | apply below_alloc | apply pw_below_drewN | apply below_drew1) | exact HB.out)) : w.heap.size ≤ gb163)); have GE163 := Aside0.mk ((by rw [hg]; exact (below_size (by repeat first | (with_reducible first | exact HB.out | apply below_alloc | apply pw_below_drewN | apply below_drew1) | exact HB.out)) : w.heap.size ≤ gb163)); replace HB := Aside0.mk (below_step (by repeat first | (with_reducible first | exact HB.out | apply below_alloc | apply pw_below_drewN | apply below_drew1) | exact HB.out) hb); clear hb hbox hg) | ((with_reducible refine gate_callee (f := 87) rfl ?_); refine goesL_ (some 22) rfl rfl Try.func87 (by kernel_rfl) rfl #[.string a0, .string (⟨#[110, 111, 116, 32]⟩ : ByteArray)] rfl (by (try simp only [List.map_toArray, List.map_cons, List.map_nil]); first | done | rfl) ?_; (with_reducible refine (strings_CutPrefix.calls a0 (⟨#[110, 111, 116, 32]⟩ : ByteArray) t164 false _ A2.out).mono ?_); rintro e w' ⟨rfl, ⟨nd, rfl⟩⟩; refine ⟨_, rfl, ?_⟩; (try (rw [drewN_self w17]; generalize hq_ : World.drewN w17 _ = w17; have n0_ : Aside0 (w17.heap[gb163]? = some (.cells #[.string (⟨#[]⟩ : ByteArray), .slice none 0 0] 55 (0, 0))) := ⟨by rw [← hq_]; exact (by (with_reducible repeat first | apply blk_drewN | apply blk_drew | apply blk_alloc); exact BK163.out)⟩; have n1_ : Aside0 (Below w.heap.size w w17) := ⟨by rw [← hq_]; exact (by repeat first | (with_reducible first | exact HB.out | apply below_alloc | apply pw_below_drewN | apply below_drew1 | refine below_set ?_ GE163.out) | exact HB.out)⟩; clear BK163 HB hq_; have BK163 := n0_; have HB := n1_; clear n0_ n1_; (try (have hcq3_ : w17.cell? ⟨gb163, 0, none⟩ = some (.string (⟨#[]⟩ : ByteArray)) := (blk_cell BK163.out 0).trans rfl; have hfq3_ := blk_frozen BK163.out 0)); (try (have hcq4_ : w17.cell? ⟨gb163, 1, none⟩ = some (.slice none 0 0) := (blk_cell BK163.out 1).trans rfl; have hfq4_ := blk_frozen BK163.out 1))))) | ((with_reducible refine gate_callee (f := 87) rfl ?_); refine goesL_ (some 39) rfl rfl Try.func87 (by kernel_rfl) rfl #[.string a0, .string (⟨#[40]⟩ : ByteArray)] rfl (by (try simp only [List.map_toArray, List.map_cons, List.map_nil]); first | done | rfl) ?_; (with_reducible refine (strings_CutPrefix.calls a0 (⟨#[40]⟩ : ByteArray) t173 true _ A12.out).mono ?_); rintro e w' ⟨rfl, ⟨nd, rfl⟩⟩; refine ⟨_, rfl, ?_⟩; (try (rw [drewN_self w17]; generalize hq_ : World.drewN w17 _ = w17; have n0_ : Aside0 (w17.heap[gb163]? = some (.cells #[.string (⟨#[]⟩ : ByteArray), .slice none 0 0] 55 (0, 0))) := ⟨by rw [← hq_]; exact (by (with_reducible repeat first | apply blk_drewN | apply blk_drew | apply blk_alloc); exact BK163.out)⟩; have n1_ : Aside0 (Below w.heap.size w w17) := ⟨by rw [← hq_]; exact (by repeat first | (with_reducible first | exact HB.out | apply below_alloc | apply pw_below_drewN | apply below_drew1 | refine below_set ?_ GE163.out) | exact HB.out)⟩; clear BK163 HB hq_; have BK163 := n0_; have HB := n1_; clear n0_ n1_; (try (have hcq5_ : w17.cell? ⟨gb163, 0, none⟩ = some (.string (⟨#[]⟩ : ByteArray)) := (blk_cell BK163.out 0).trans rfl; have hfq5_ := blk_frozen BK163.out 0)); (try (have hcq6_ : w17.cell? ⟨gb163, 1, none⟩ = some (.slice none 0 0) := (blk_cell BK163.out 1).trans rfl; have hfq6_ := blk_frozen BK163.out 1))))) | ((with_reducible refine gate_callee (f := 69) rfl ?_); refine goesL_ (some 45) rfl rfl Try.func69 (by kernel_rfl) rfl #[.string t173, .string (⟨#[111, 114]⟩ : ByteArray)] rfl (by (try simp only [List.map_toArray, List.map_cons, List.map_nil]); first | done | rfl) ?_; (with_reducible refine (orRow.calls (impl_takeFactor.f k) ⟨fun s r1 r2 r3 r4 w h => ih k (by omega) s r1 r2 r3 r4 w h⟩ k t173 t175 t176 t179 true _ A14.out).mono ?_); rintro e w18 ⟨v177, rfl, ho0, hb⟩; refine ⟨_, rfl, ?_⟩; have HO178 := Aside0.mk (Kd.R_lower (Kd.R_newB ho0 (g := gb163) (o := .cells #[.string (⟨#[]⟩ : ByteArray), .slice none 0 0] 55 (0, 0)) (by (with_reducible repeat first | apply blk_drewN | apply blk_drew | apply blk_alloc); exact BK163.out)) (below_size (by repeat first | (with_reducible first | exact HB.out | apply below_alloc | apply pw_below_drewN | apply below_drew1 | refine below_set ?_ GE163.out) | exact HB.out))); replace BK163 := Aside0.mk (blk_below (g := gb163) (o := .cells #[.string (⟨#[]⟩ : ByteArray), .slice none 0 0] 55 (0, 0)) (by (with_reducible repeat first | apply blk_drewN | apply blk_drew | apply blk_alloc); exact BK163.out) hb); replace HB := Aside0.mk (below_step (by repeat first | (with_reducible first | exact HB.out | apply below_alloc | apply pw_below_drewN | apply below_drew1 | refine below_set ?_ GE163.out) | exact HB.out) hb); (try clear hb); (try clear ho0)) | ((with_reducible refine gate_dst (N := 12) rfl ?_); refine box_event ?hg (N := 12) ?hd (cs := #[.string (⟨#[]⟩ : ByteArray), .slice none 0 0]) (t := 55) ?hr ?_; (case hd => rfl); (case hg => rfl); (case hr => first | (go_simp; done) | (go_simp; rfl)); intro gb181 hg w19 hbox hb; replace HO178 := Aside0.mk (Kd.R_below (Kd.R_elderB (by (with_reducible repeat first | apply Kd.R_alloc | apply Kd.R_drewN | apply Kd.R_drew); exact HO178.out) gb181 (Nat.le_of_eq hg.symm)) hb); have BK181 := Aside0.mk (hbox); have GW181 := Aside0.mk ((by rw [hg]; exact (below_size (by repeat first | (with_reducible first | exact HB.out | apply below_alloc | apply pw_below_drewN | apply below_drew1 | refine below_set ?_ GE163.out) | exact HB.out)) : w.heap.size ≤ gb181)); have GE181 := Aside0.mk ((by rw [hg]; exact (below_size (by repeat first | (with_reducible first | exact HB.out | apply below_alloc | apply pw_below_drewN | apply below_drew1 | refine below_set ?_ GE163.out) | exact HB.out)) : w.heap.size ≤ gb181)); replace HB := Aside0.mk (below_step (by repeat first | (with_reducible first | exact HB.out | apply below_alloc | apply pw_below_drewN | apply below_drew1 | refine below_set ?_ GE163.out) | exact HB.out) hb); have NB163_181 := Aside0.mk ((by rw [hg]; exact Nat.ne_of_lt (blk_lt (g := gb163) (o := .cells #[.string (⟨#[]⟩ : ByteArray), .slice none 0 0] 55 (0, 0)) (by (with_reducible repeat first | apply blk_drewN | apply blk_drew | apply blk_alloc); exact BK163.out)) : gb163 ≠ gb181)); have NB181_163 := Aside0.mk ((by rw [hg]; exact Nat.ne_of_gt (blk_lt (g := gb163) (o := .cells #[.string (⟨#[]⟩ : ByteArray), .slice none 0 0] 55 (0, 0)) (by (with_reducible repeat first | apply blk_drewN | apply blk_drew | apply blk_alloc); exact BK163.out)) : gb181 ≠ gb163)); replace BK163 := Aside0.mk (blk_below (g := gb163) (o := .cells #[.string (⟨#[]⟩ : ByteArray), .slice none 0 0] 55 (0, 0)) (by (with_reducible repeat first | apply blk_drewN | apply blk_drew | apply blk_alloc); exact BK163.out) hb); clear hb hbox hg; have hnb20 := NB181_163.out; have hnc20 := NB163_181.out; have hcz21_0 : w19.cell? ⟨gb181, 0, none⟩ = some (.string (⟨#[]⟩ : ByteArray)) := (blk_cell BK181.out 0).trans rfl; have hcz21_1 : w19.cell? ⟨gb181, 1, none⟩ = some (.slice none 0 0) := (blk_cell BK181.out 1).trans rfl; have hfz21_0 := blk_frozen BK181.out 0; have hfz21_1 := blk_frozen BK181.out 1; obtain ⟨Ao22, co22, eo22⟩ := Kd.R_slice HO178.out; subst eo22) | ((with_reducible refine gate_callee (f := 87) rfl ?_); refine goesL_ (some 51) rfl rfl Try.func87 (by kernel_rfl) rfl #[.string t179, .string (⟨#[41]⟩ : ByteArray)] rfl (by (try simp only [List.map_toArray, List.map_cons, List.map_nil]); first | done | rfl) ?_; (with_reducible refine (strings_CutPrefix.calls t179 (⟨#[41]⟩ : ByteArray) t182 t183 _ A15.out).mono ?_); rintro e w' ⟨rfl, ⟨nd, rfl⟩⟩; refine ⟨_, rfl, ?_⟩; have hcz23_0 : w19.cell? ⟨gb163, 0, none⟩ = some (.string (⟨#[]⟩ : ByteArray)) := (blk_cell BK163.out 0).trans rfl; have hcz23_1 : w19.cell? ⟨gb163, 1, none⟩ = some (.slice none 0 0) := (blk_cell BK163.out 1).trans rfl; have hfz23_0 := blk_frozen BK163.out 0; have hfz23_1 := blk_frozen BK163.out 1))
    refine bodyPost_ret (results_ctt rfl _ _ gb163 55 #[.string t175, .slice Ao22 t176.length co22] (0, 0) _ rfl (by (with_reducible repeat first | apply blk_drewN | apply blk_drew | apply blk_alloc); refine blk_put (cs := #[.string t175, .slice none 0 0]) ?_ 1 _ rfl; (with_reducible repeat first | apply blk_drewN | apply blk_drew | apply blk_alloc); refine blk_put (cs := #[.string (⟨#[]⟩ : ByteArray), .slice none 0 0]) ?_ 0 _ rfl; (with_reducible repeat first | apply blk_drewN | apply blk_drew | apply blk_alloc); refine blk_far ?_ NB163_181.out _; (with_reducible repeat first | apply blk_drewN | apply blk_drew | apply blk_alloc); refine blk_far ?_ NB163_181.out _; (with_reducible repeat first | apply blk_drewN | apply blk_drew | apply blk_alloc); exact BK163.out) Try.underlying55 rfl (by kernel_rfl)) rfl ?_
    exact ⟨_, by first | rfl | (simp [errW_none, errW_some] <;> rfl) | (simp [*, errW_none, errW_some] <;> rfl), by (with_reducible repeat first | apply Kd.R_alloc | apply Kd.R_drewN | apply Kd.R_drew); exact Kd.R_mono (Kd.R_far (p := ⟨gb163, 1, none⟩) (Kd.R_far (p := ⟨gb163, 0, none⟩) (Kd.R_drewN (Kd.R_far (p := ⟨gb181, 1, none⟩) (Kd.R_far (p := ⟨gb181, 0, none⟩) (Kd.R_mono (Kd.R_mono HO178.out (fun k_ hk => (⟨hk, hk.2⟩ : _ ∧ k_ ≠ gb181))) (fun k_ hk => (⟨hk, hk.1.1.2⟩ : _ ∧ k_ ≠ gb163))) (fun _ hk => hk.1.2) (.string t175)) (fun _ hk => hk.1.2) (.slice Ao22 t176.length co22)) _) (fun _ hk => hk.2) (.string t175)) (fun _ hk => hk.2) (.slice Ao22 t176.length co22)) (fun _ hk => trivial), by repeat (first | (with_reducible first | exact HB.out | apply below_alloc | apply pw_below_drewN | apply below_drew1 | refine below_set ?_ GE163.out | refine below_set ?_ GE181.out) | exact HB.out)⟩
   ·replace c16 := Bool.eq_false_iff.mpr c16
    subst c16
    have H1 : (some (t175, t176, t182, false)) = some (r1, r2, r3, r4) := by rw [if_neg (show ¬ (false = true) by decide)] at H; exact H
    clear H; have H := H1; clear H1
    simp only [Option.some.injEq, Prod.mk.injEq] at H
    obtain ⟨rfl, rfl, rfl, rfl⟩ := H
    go_enter Try.func85, Try.ntmps85
    go_wp2_with (first | ((with_reducible refine gate_dst (N := 2) rfl ?_); refine box_event ?hg (N := 2) ?hd (cs := #[.string (⟨#[]⟩ : ByteArray), .slice none 0 0]) (t := 55) ?hr ?_; (case hd => rfl); (case hg => rfl); (case hr => first | (go_simp; done) | (go_simp; rfl)); intro gb163 hg w24 hbox hb; have BK163 := Aside0.mk (hbox); have GW163 := Aside0.mk ((by rw [hg]; exact (below_size (by repeat first | (with_reducible first | exact HB.out | apply below_alloc | apply pw_below_drewN | apply below_drew1) | exact HB.out)) : w.heap.size ≤ gb163)); have GE163 := Aside0.mk ((by rw [hg]; exact (below_size (by repeat first | (with_reducible first | exact HB.out | apply below_alloc | apply pw_below_drewN | apply below_drew1) | exact HB.out)) : w.heap.size ≤ gb163)); replace HB := Aside0.mk (below_step (by repeat first | (with_reducible first | exact HB.out | apply below_alloc | apply pw_below_drewN | apply below_drew1) | exact HB.out) hb); clear hb hbox hg) | ((with_reducible refine gate_callee (f := 87) rfl ?_); refine goesL_ (some 22) rfl rfl Try.func87 (by kernel_rfl) rfl #[.string a0, .string (⟨#[110, 111, 116, 32]⟩ : ByteArray)] rfl (by (try simp only [List.map_toArray, List.map_cons, List.map_nil]); first | done | rfl) ?_; (with_reducible refine (strings_CutPrefix.calls a0 (⟨#[110, 111, 116, 32]⟩ : ByteArray) t164 false _ A2.out).mono ?_); rintro e w' ⟨rfl, ⟨nd, rfl⟩⟩; refine ⟨_, rfl, ?_⟩; (try (rw [drewN_self w24]; generalize hq_ : World.drewN w24 _ = w24; have n0_ : Aside0 (w24.heap[gb163]? = some (.cells #[.string (⟨#[]⟩ : ByteArray), .slice none 0 0] 55 (0, 0))) := ⟨by rw [← hq_]; exact (by (with_reducible repeat first | apply blk_drewN | apply blk_drew | apply blk_alloc); exact BK163.out)⟩; have n1_ : Aside0 (Below w.heap.size w w24) := ⟨by rw [← hq_]; exact (by repeat first | (with_reducible first | exact HB.out | apply below_alloc | apply pw_below_drewN | apply below_drew1 | refine below_set ?_ GE163.out) | exact HB.out)⟩; clear BK163 HB hq_; have BK163 := n0_; have HB := n1_; clear n0_ n1_; (try (have hcq7_ : w24.cell? ⟨gb163, 0, none⟩ = some (.string (⟨#[]⟩ : ByteArray)) := (blk_cell BK163.out 0).trans rfl; have hfq7_ := blk_frozen BK163.out 0)); (try (have hcq8_ : w24.cell? ⟨gb163, 1, none⟩ = some (.slice none 0 0) := (blk_cell BK163.out 1).trans rfl; have hfq8_ := blk_frozen BK163.out 1))))) | ((with_reducible refine gate_callee (f := 87) rfl ?_); refine goesL_ (some 39) rfl rfl Try.func87 (by kernel_rfl) rfl #[.string a0, .string (⟨#[40]⟩ : ByteArray)] rfl (by (try simp only [List.map_toArray, List.map_cons, List.map_nil]); first | done | rfl) ?_; (with_reducible refine (strings_CutPrefix.calls a0 (⟨#[40]⟩ : ByteArray) t173 true _ A12.out).mono ?_); rintro e w' ⟨rfl, ⟨nd, rfl⟩⟩; refine ⟨_, rfl, ?_⟩; (try (rw [drewN_self w24]; generalize hq_ : World.drewN w24 _ = w24; have n0_ : Aside0 (w24.heap[gb163]? = some (.cells #[.string (⟨#[]⟩ : ByteArray), .slice none 0 0] 55 (0, 0))) := ⟨by rw [← hq_]; exact (by (with_reducible repeat first | apply blk_drewN | apply blk_drew | apply blk_alloc); exact BK163.out)⟩; have n1_ : Aside0 (Below w.heap.size w w24) := ⟨by rw [← hq_]; exact (by repeat first | (with_reducible first | exact HB.out | apply below_alloc | apply pw_below_drewN | apply below_drew1 | refine below_set ?_ GE163.out) | exact HB.out)⟩; clear BK163 HB hq_; have BK163 := n0_; have HB := n1_; clear n0_ n1_; (try (have hcq9_ : w24.cell? ⟨gb163, 0, none⟩ = some (.string (⟨#[]⟩ : ByteArray)) := (blk_cell BK163.out 0).trans rfl; have hfq9_ := blk_frozen BK163.out 0)); (try (have hcq10_ : w24.cell? ⟨gb163, 1, none⟩ = some (.slice none 0 0) := (blk_cell BK163.out 1).trans rfl; have hfq10_ := blk_frozen BK163.out 1))))) | ((with_reducible refine gate_callee (f := 69) rfl ?_); refine goesL_ (some 45) rfl rfl Try.func69 (by kernel_rfl) rfl #[.string t173, .string (⟨#[111, 114]⟩ : ByteArray)] rfl (by (try simp only [List.map_toArray, List.map_cons, List.map_nil]); first | done | rfl) ?_; (with_reducible refine (orRow.calls (impl_takeFactor.f k) ⟨fun s r1 r2 r3 r4 w h => ih k (by omega) s r1 r2 r3 r4 w h⟩ k t173 t175 t176 t179 false _ A14.out).mono ?_); rintro e w25 ⟨v177, rfl, ho0, hb⟩; refine ⟨_, rfl, ?_⟩; have HO178 := Aside0.mk (Kd.R_lower (Kd.R_newB ho0 (g := gb163) (o := .cells #[.string (⟨#[]⟩ : ByteArray), .slice none 0 0] 55 (0, 0)) (by (with_reducible repeat first | apply blk_drewN | apply blk_drew | apply blk_alloc); exact BK163.out)) (below_size (by repeat first | (with_reducible first | exact HB.out | apply below_alloc | apply pw_below_drewN | apply below_drew1 | refine below_set ?_ GE163.out) | exact HB.out))); replace BK163 := Aside0.mk (blk_below (g := gb163) (o := .cells #[.string (⟨#[]⟩ : ByteArray), .slice none 0 0] 55 (0, 0)) (by (with_reducible repeat first | apply blk_drewN | apply blk_drew | apply blk_alloc); exact BK163.out) hb); replace HB := Aside0.mk (below_step (by repeat first | (with_reducible first | exact HB.out | apply below_alloc | apply pw_below_drewN | apply below_drew1 | refine below_set ?_ GE163.out) | exact HB.out) hb); (try clear hb); (try clear ho0)) | ((with_reducible refine gate_dst (N := 12) rfl ?_); refine box_event ?hg (N := 12) ?hd (cs := #[.string (⟨#[]⟩ : ByteArray), .slice none 0 0]) (t := 55) ?hr ?_; (case hd => rfl); (case hg => rfl); (case hr => first | (go_simp; done) | (go_simp; rfl)); intro gb181 hg w26 hbox hb; replace HO178 := Aside0.mk (Kd.R_below (Kd.R_elderB (by (with_reducible repeat first | apply Kd.R_alloc | apply Kd.R_drewN | apply Kd.R_drew); exact HO178.out) gb181 (Nat.le_of_eq hg.symm)) hb); have BK181 := Aside0.mk (hbox); have GW181 := Aside0.mk ((by rw [hg]; exact (below_size (by repeat first | (with_reducible first | exact HB.out | apply below_alloc | apply pw_below_drewN | apply below_drew1 | refine below_set ?_ GE163.out) | exact HB.out)) : w.heap.size ≤ gb181)); have GE181 := Aside0.mk ((by rw [hg]; exact (below_size (by repeat first | (with_reducible first | exact HB.out | apply below_alloc | apply pw_below_drewN | apply below_drew1 | refine below_set ?_ GE163.out) | exact HB.out)) : w.heap.size ≤ gb181)); replace HB := Aside0.mk (below_step (by repeat first | (with_reducible first | exact HB.out | apply below_alloc | apply pw_below_drewN | apply below_drew1 | refine below_set ?_ GE163.out) | exact HB.out) hb); have NB163_181 := Aside0.mk ((by rw [hg]; exact Nat.ne_of_lt (blk_lt (g := gb163) (o := .cells #[.string (⟨#[]⟩ : ByteArray), .slice none 0 0] 55 (0, 0)) (by (with_reducible repeat first | apply blk_drewN | apply blk_drew | apply blk_alloc); exact BK163.out)) : gb163 ≠ gb181)); have NB181_163 := Aside0.mk ((by rw [hg]; exact Nat.ne_of_gt (blk_lt (g := gb163) (o := .cells #[.string (⟨#[]⟩ : ByteArray), .slice none 0 0] 55 (0, 0)) (by (with_reducible repeat first | apply blk_drewN | apply blk_drew | apply blk_alloc); exact BK163.out)) : gb181 ≠ gb163)); replace BK163 := Aside0.mk (blk_below (g := gb163) (o := .cells #[.string (⟨#[]⟩ : ByteArray), .slice none 0 0] 55 (0, 0)) (by (with_reducible repeat first | apply blk_drewN | apply blk_drew | apply blk_alloc); exact BK163.out) hb); clear hb hbox hg; have hnb27 := NB181_163.out; have hnc27 := NB163_181.out; have hcz28_0 : w26.cell? ⟨gb181, 0, none⟩ = some (.string (⟨#[]⟩ : ByteArray)) := (blk_cell BK181.out 0).trans rfl; have hcz28_1 : w26.cell? ⟨gb181, 1, none⟩ = some (.slice none 0 0) := (blk_cell BK181.out 1).trans rfl; have hfz28_0 := blk_frozen BK181.out 0; have hfz28_1 := blk_frozen BK181.out 1; obtain ⟨Ao29, co29, eo29⟩ := Kd.R_slice HO178.out; subst eo29) | ((with_reducible refine gate_callee (f := 87) rfl ?_); refine goesL_ (some 51) rfl rfl Try.func87 (by kernel_rfl) rfl #[.string t179, .string (⟨#[41]⟩ : ByteArray)] rfl (by (try simp only [List.map_toArray, List.map_cons, List.map_nil]); first | done | rfl) ?_; (with_reducible refine (strings_CutPrefix.calls t179 (⟨#[41]⟩ : ByteArray) t182 t183 _ A15.out).mono ?_); rintro e w' ⟨rfl, ⟨nd, rfl⟩⟩; refine ⟨_, rfl, ?_⟩; have hcz30_0 : w26.cell? ⟨gb163, 0, none⟩ = some (.string (⟨#[]⟩ : ByteArray)) := (blk_cell BK163.out 0).trans rfl; have hcz30_1 : w26.cell? ⟨gb163, 1, none⟩ = some (.slice none 0 0) := (blk_cell BK163.out 1).trans rfl; have hfz30_0 := blk_frozen BK163.out 0; have hfz30_1 := blk_frozen BK163.out 1))
    refine bodyPost_ret (results_ctt rfl _ _ gb163 55 #[.string t175, .slice Ao29 t176.length co29] (0, 0) _ rfl (by (with_reducible repeat first | apply blk_drewN | apply blk_drew | apply blk_alloc); refine blk_put (cs := #[.string t175, .slice none 0 0]) ?_ 1 _ rfl; (with_reducible repeat first | apply blk_drewN | apply blk_drew | apply blk_alloc); refine blk_put (cs := #[.string (⟨#[]⟩ : ByteArray), .slice none 0 0]) ?_ 0 _ rfl; (with_reducible repeat first | apply blk_drewN | apply blk_drew | apply blk_alloc); refine blk_far ?_ NB163_181.out _; (with_reducible repeat first | apply blk_drewN | apply blk_drew | apply blk_alloc); refine blk_far ?_ NB163_181.out _; (with_reducible repeat first | apply blk_drewN | apply blk_drew | apply blk_alloc); exact BK163.out) Try.underlying55 rfl (by kernel_rfl)) rfl ?_
    exact ⟨_, by first | rfl | (simp [errW_none, errW_some] <;> rfl) | (simp [*, errW_none, errW_some] <;> rfl), by (with_reducible repeat first | apply Kd.R_alloc | apply Kd.R_drewN | apply Kd.R_drew); exact Kd.R_mono (Kd.R_far (p := ⟨gb163, 1, none⟩) (Kd.R_far (p := ⟨gb163, 0, none⟩) (Kd.R_drewN (Kd.R_far (p := ⟨gb181, 1, none⟩) (Kd.R_far (p := ⟨gb181, 0, none⟩) (Kd.R_mono (Kd.R_mono HO178.out (fun k_ hk => (⟨hk, hk.2⟩ : _ ∧ k_ ≠ gb181))) (fun k_ hk => (⟨hk, hk.1.1.2⟩ : _ ∧ k_ ≠ gb163))) (fun _ hk => hk.1.2) (.string t175)) (fun _ hk => hk.1.2) (.slice Ao29 t176.length co29)) _) (fun _ hk => hk.2) (.string t175)) (fun _ hk => hk.2) (.slice Ao29 t176.length co29)) (fun _ hk => trivial), by repeat (first | (with_reducible first | exact HB.out | apply below_alloc | apply pw_below_drewN | apply below_drew1 | refine below_set ?_ GE163.out | refine below_set ?_ GE181.out) | exact HB.out)⟩
  ·replace c13 := Bool.eq_false_iff.mpr c13
   subst c13
   have H1 : ((strings_CutPrefix.f a0 (⟨#[64]⟩ : ByteArray)).bind fun bt184 => (impl_takeFactor.l0 k a0 bt184.1 bt184.2 0)) = some (r1, r2, r3, r4) := by rw [if_neg (show ¬ (false = true) by decide)] at H; exact H
   clear H; have H := H1; clear H1
   replace H := Option.bind_eq_some_iff.mp H
   obtain ⟨⟨t184, t185⟩, A310, H⟩ := H
   replace H : (impl_takeFactor.l0 k a0 t184 t185 0) = some (r1, r2, r3, r4) := H
   have A31 := Aside0.mk A310; clear A310; have HC32 := Aside0.mk H; clear H
   go_enter Try.func85, Try.ntmps85
   go_upto_block 0 with (first | ((with_reducible refine gate_dst (N := 2) rfl ?_); refine box_event ?hg (N := 2) ?hd (cs := #[.string (⟨#[]⟩ : ByteArray), .slice none 0 0]) (t := 55) ?hr ?_; (case hd => rfl); (case hg => rfl); (case hr => first | (go_simp; done) | (go_simp; rfl)); intro gb163 hg w33 hbox hb; have BK163 := Aside0.mk (hbox); have GW163 := Aside0.mk ((by rw [hg]; exact (below_size (by repeat first | (with_reducible first | exact HB.out | apply below_alloc | apply pw_below_drewN | apply below_drew1) | exact HB.out)) : w.heap.size ≤ gb163)); have GE163 := Aside0.mk ((by rw [hg]; exact (below_size (by repeat first | (with_reducible first | exact HB.out | apply below_alloc | apply pw_below_drewN | apply below_drew1) | exact HB.out)) : w.heap.size ≤ gb163)); replace HB := Aside0.mk (below_step (by repeat first | (with_reducible first | exact HB.out | apply below_alloc | apply pw_below_drewN | apply below_drew1) | exact HB.out) hb); clear hb hbox hg) | ((with_reducible refine gate_callee (f := 87) rfl ?_); refine goesL_ (some 22) rfl rfl Try.func87 (by kernel_rfl) rfl #[.string a0, .string (⟨#[110, 111, 116, 32]⟩ : ByteArray)] rfl (by (try simp only [List.map_toArray, List.map_cons, List.map_nil]); first | done | rfl) ?_; (with_reducible refine (strings_CutPrefix.calls a0 (⟨#[110, 111, 116, 32]⟩ : ByteArray) t164 false _ A2.out).mono ?_); rintro e w' ⟨rfl, ⟨nd, rfl⟩⟩; refine ⟨_, rfl, ?_⟩) | ((with_reducible refine gate_callee (f := 87) rfl ?_); refine goesL_ (some 39) rfl rfl Try.func87 (by kernel_rfl) rfl #[.string a0, .string (⟨#[40]⟩ : ByteArray)] rfl (by (try simp only [List.map_toArray, List.map_cons, List.map_nil]); first | done | rfl) ?_; (with_reducible refine (strings_CutPrefix.calls a0 (⟨#[40]⟩ : ByteArray) t173 false _ A12.out).mono ?_); rintro e w' ⟨rfl, ⟨nd, rfl⟩⟩; refine ⟨_, rfl, ?_⟩) | ((with_reducible refine gate_callee (f := 87) rfl ?_); refine goesL_ (some 62) rfl rfl Try.func87 (by kernel_rfl) rfl #[.string a0, .string (⟨#[64]⟩ : ByteArray)] rfl (by (try simp only [List.map_toArray, List.map_cons, List.map_nil]); first | done | rfl) ?_; (with_reducible refine (strings_CutPrefix.calls a0 (⟨#[64]⟩ : ByteArray) t184 t185 _ A31.out).mono ?_); rintro e w' ⟨rfl, ⟨nd, rfl⟩⟩; refine ⟨_, rfl, ?_⟩))
   (try simp only [Act.put, List.setIfInBounds_toArray, List.set_cons_zero, List.set_cons_succ])
   go_cut [18] (fun v18 wc => ∃ (kq : Nat) (x18_31 : Int), v18 = .int .i64 x18_31 ∧ Aside0 (impl_takeFactor.j1 kq a0 t184 t185 x18_31 = some (r1, r2, r3, r4)) ∧ Aside0 (kq ≤ k) ∧ Aside0 (wc.heap[gb163]? = some (.cells #[.string (⟨#[]⟩ : ByteArray), (.slice none 0 0)] 55 (0, 0))) ∧ Aside0 (Below w.heap.size w wc))
   case first =>
    have H := HC32.out; clear HC32; have H' := Aside0.mk H; clear H
    go_wp2
    go_loopg [18] k (fun kq v18 w' => ∃ (x18_1 : Int), v18 = .int .i64 x18_1 ∧ Aside0 (impl_takeFactor.l0 kq a0 t184 t185 x18_1 = some (r1, r2, r3, r4)) ∧ Aside0 (kq ≤ k) ∧ Aside0 (w'.heap[gb163]? = some (.cells #[.string (⟨#[]⟩ : ByteArray), (.slice none 0 0)] 55 (0, 0))) ∧ Aside0 (Below w.heap.size w w'))
    case atStart => exact ⟨(0), (by first | rfl | (simp; done) | (simp [*]; done)), H', ⟨Nat.le_refl _⟩, ⟨by (with_reducible repeat first | apply blk_drewN | apply blk_drew | apply blk_alloc); exact BK163.out⟩, ⟨by repeat (first | (with_reducible first | exact HB.out | apply below_alloc | apply pw_below_drewN | apply below_drew1 | refine below_set ?_ GE163.out) | exact HB.out)⟩⟩
    case round =>
     clear H'; try clear c1; try clear c2; try clear p2; try clear c3; try clear c6; try clear c8; try clear c13; try clear c16; try clear c20; try clear c27; try clear hcz11_0; try clear hcz11_1; try clear hcz21_0; try clear hcz21_1; try clear hcz23_0; try clear hcz23_1; try clear hcz28_0; try clear hcz28_1; try clear hcz30_0; try clear hcz30_1; try clear hcz9_0; try clear hcz9_1; try clear hfz11_0; try clear hfz11_1; try clear hfz21_0; try clear hfz21_1; try clear hfz23_0; try clear hfz23_1; try clear hfz28_0; try clear hfz28_1; try clear hfz30_0; try clear hfz30_1; try clear hfz9_0; try clear hfz9_1
     obtain ⟨x18_1, rfl, HA, HK1, BK163, HB⟩ := hrel
     cases gk with
     | zero => exact absurd HA.out (by simp [impl_takeFactor.l0])
     | succ k1 =>
      have H := HA.out; clear HA
      simp only [impl_takeFactor.l0] at H
      by_cases c34 : x18_1 < (t184.size : Int)
      ·rw [if_pos c34] at H
       have c34b0 : decide (x18_1 < (t184.size : Int)) = true := decide_eq_true c34
       clear c34
       (first | rw [c34b0] | (simp only [i64_w, i32_w]; rw [c34b0]) | skip)
       by_cases c35 : 0 ≤ x18_1
       ·rw [if_pos c35] at H
        have c35b0 : decide (0 ≤ x18_1) = true := decide_eq_true c35
        clear c35
        by_cases c37 : (bt t184 x18_1) ≥ 97
        ·rw [if_pos c37] at H
         have c37b0 : decide (97 ≤ (bt t184 x18_1)) = true := decide_eq_true c37
         clear c37
         by_cases c39 : (bt t184 x18_1) ≤ 122
         ·rw [if_pos c39] at H
          have c39b0 : decide ((bt t184 x18_1) ≤ 122) = true := decide_eq_true c39
          clear c39; have H' := Aside0.mk H; clear H
          have p36 : 0 ≤ (x18_1 : Int) := of_decide_eq_true (by first | (with_reducible assumption) | assumption)
          have q36 : x18_1 < (t184.size : Int) := of_decide_eq_true (by first | (with_reducible assumption) | assumption)
          have hx36 := bt_at t184 x18_1
          replace p36 := eq_true p36
          replace q36 := eq_true q36
          have p38 : 0 ≤ (x18_1 : Int) := of_decide_eq_true (by first | (with_reducible assumption) | assumption)
          have q38 : x18_1 < (t184.size : Int) := of_decide_eq_true (by first | (with_reducible assumption) | assumption)
          have hx38 := bt_at t184 x18_1
          replace p38 := eq_true p38
          replace q38 := eq_true q38
          go_wp2
          go_roundg k1
          case measure => have := HK1.out; omega
          case rel => exact ⟨(wrap64 (x18_1 + 1)), (by first | rfl | (simp; done) | (simp [*]; done)), H', ⟨by have := HK1.out; omega⟩, ⟨by (with_reducible repeat first | apply blk_drewN | apply blk_drew | apply blk_alloc); exact BK163.out⟩, ⟨by repeat (first | (with_reducible first | exact HB.out | apply below_alloc | apply pw_below_drewN | apply below_drew1 | refine below_set ?_ GE163.out) | exact HB.out)⟩⟩
         ·rw [if_neg c39] at H
          have c39b0 : decide ((bt t184 x18_1) ≤ 122) = false := decide_eq_false c39
          clear c39; have H' := Aside0.mk H; clear H
          have p36 : 0 ≤ (x18_1 : Int) := of_decide_eq_true (by first | (with_reducible assumption) | assumption)
          have q36 : x18_1 < (t184.size : Int) := of_decide_eq_true (by first | (with_reducible assumption) | assumption)
          have hx36 := bt_at t184 x18_1
          replace p36 := eq_true p36
          replace q36 := eq_true q36
          have p38 : 0 ≤ (x18_1 : Int) := of_decide_eq_true (by first | (with_reducible assumption) | assumption)
          have q38 : x18_1 < (t184.size : Int) := of_decide_eq_true (by first | (with_reducible assumption) | assumption)
          have hx38 := bt_at t184 x18_1
          replace p38 := eq_true p38
          replace q38 := eq_true q38
          go_wp2
          go_meet
          case rel => exact ⟨_, (x18_1), (by first | rfl | (simp; done) | (simp [*]; done)), H', ⟨by have := HK1.out; first | omega | exact Nat.le_refl _⟩, ⟨by (with_reducible repeat first | apply blk_drewN | apply blk_drew | apply blk_alloc); exact BK163.out⟩, ⟨by repeat (first | (with_reducible first | exact HB.out | apply below_alloc | apply pw_below_drewN | apply below_drew1 | refine below_set ?_ GE163.out) | exact HB.out)⟩⟩
        ·rw [if_neg c37] at H
         have c37b0 : decide (97 ≤ (bt t184 x18_1)) = false := decide_eq_false c37
         clear c37; have H' := Aside0.mk H; clear H
         have p36 : 0 ≤ (x18_1 : Int) := of_decide_eq_true (by first | (with_reducible assumption) | assumption)
         have q36 : x18_1 < (t184.size : Int) := of_decide_eq_true (by first | (with_reducible assumption) | assumption)
         have hx36 := bt_at t184 x18_1
         replace p36 := eq_true p36
         replace q36 := eq_true q36
         go_wp2
         go_meet
         case rel => exact ⟨_, (x18_1), (by first | rfl | (simp; done) | (simp [*]; done)), H', ⟨by have := HK1.out; first | omega | exact Nat.le_refl _⟩, ⟨by (with_reducible repeat first | apply blk_drewN | apply blk_drew | apply blk_alloc); exact BK163.out⟩, ⟨by repeat (first | (with_reducible first | exact HB.out | apply below_alloc | apply pw_below_drewN | apply below_drew1 | refine below_set ?_ GE163.out) | exact HB.out)⟩⟩
       ·rw [if_neg c35] at H
        exact absurd H (by simp)
      ·rw [if_neg c34] at H
       have c34b0 : decide (x18_1 < (t184.size : Int)) = false := decide_eq_false c34
       clear c34
       (first | rw [c34b0] | (simp only [i64_w, i32_w]; rw [c34b0]) | skip)
       have H' := Aside0.mk H; clear H
       go_wp2
       go_meet
       case rel => exact ⟨_, (x18_1), (by first | rfl | (simp; done) | (simp [*]; done)), H', ⟨by have := HK1.out; first | omega | exact Nat.le_refl _⟩, ⟨by (with_reducible repeat first | apply blk_drewN | apply blk_drew | apply blk_alloc); exact BK163.out⟩, ⟨by repeat (first | (with_reducible first | exact HB.out | apply below_alloc | apply pw_below_drewN | apply below_drew1 | refine below_set ?_ GE163.out) | exact HB.out)⟩⟩
   case rest =>
    clear HC32; try clear c1; try clear c2; try clear p2; try clear c3; try clear p3; try clear q3; try clear hx3; try clear c6; try clear p6; try clear c8; try clear c13; try clear c16; try clear c20; try clear c27; try clear c34; try clear c34b0; try clear c35; try clear c35b0; try clear p36; try clear q36; try clear hx36; try clear c37; try clear c37b0; try clear p38; try clear q38; try clear hx38; try clear c39; try clear c39b0; try clear hcz11_0; try clear hcz11_1; try clear hcz21_0; try clear hcz21_1; try clear hcz23_0; try clear hcz23_1; try clear hcz28_0; try clear hcz28_1; try clear hcz30_0; try clear hcz30_1; try clear hcz9_0; try clear hcz9_1; try clear hfz11_0; try clear hfz11_1; try clear hfz21_0; try clear hfz21_1; try clear hfz23_0; try clear hfz23_1; try clear hfz28_0; try clear hfz28_1; try clear hfz30_0; try clear hfz30_1; try clear hfz9_0; try clear hfz9_1; try clear p2; try clear p36; try clear p38; try clear q36; try clear q38
    obtain ⟨kq, x18_31, rfl, HA, HJ31, BK163, HB⟩ := hcut
    cases kq with
    | zero => exact absurd HA.out (by simp [impl_takeFactor.j1])
    | succ kj31 =>
     have H := HA.out; clear HA
     simp only [impl_takeFactor.j1] at H
     by_cases c40 : 0 ≤ x18_31
     ·rw [if_pos c40] at H
      have c40b0 := eq_true c40
      have c40b1 : decide (0 ≤ x18_31) = true := decide_eq_true c40
      clear c40
      by_cases c41 : x18_31 ≤ (t184.size : Int)
      ·rw [if_pos c41] at H
       have c41b0 := eq_true c41
       have c41b1 : decide (x18_31 ≤ (t184.size : Int)) = true := decide_eq_true c41
       clear c41
       replace H := Option.bind_eq_some_iff.mp H
       obtain ⟨t186, A420, H⟩ := H
       replace H : (if t186 = true then (if t185 = true then (if 1 + (x18_31 : Int).toNat ≤ 9223372036854775807 then (some ((⟨#[64]⟩ : ByteArray) ++ (t184.extract 0 (x18_31 : Int).toNat), ([] : List (S55)), t184.extract (x18_31 : Int).toNat t184.size, true)) else (none)) else (some (t184.extract 0 (x18_31 : Int).toNat, ([] : List (S55)), t184.extract (x18_31 : Int).toNat t184.size, true))) else (some ((⟨#[]⟩ : ByteArray), ([] : List (S55)), a0, false))) = some (r1, r2, r3, r4) := H
       have A42 := Aside0.mk A420; clear A420
       by_cases c43 : t186 = true
       ·subst c43
        have H1 : (if t185 = true then (if 1 + (x18_31 : Int).toNat ≤ 9223372036854775807 then (some ((⟨#[64]⟩ : ByteArray) ++ (t184.extract 0 (x18_31 : Int).toNat), ([] : List (S55)), t184.extract (x18_31 : Int).toNat t184.size, true)) else (none)) else (some (t184.extract 0 (x18_31 : Int).toNat, ([] : List (S55)), t184.extract (x18_31 : Int).toNat t184.size, true))) = some (r1, r2, r3, r4) := by rw [if_pos rfl] at H; exact H
        clear H; have H := H1; clear H1
        by_cases c44 : t185 = true
        ·subst c44
         have H1 : (if 1 + (x18_31 : Int).toNat ≤ 9223372036854775807 then (some ((⟨#[64]⟩ : ByteArray) ++ (t184.extract 0 (x18_31 : Int).toNat), ([] : List (S55)), t184.extract (x18_31 : Int).toNat t184.size, true)) else (none)) = some (r1, r2, r3, r4) := by rw [if_pos rfl] at H; exact H
         clear H; have H := H1; clear H1
         by_cases c45 : 1 + (x18_31 : Int).toNat ≤ 9223372036854775807
         ·rw [if_pos c45] at H
          have c45b0 := eq_true c45
          have c45b1 : decide (1 + (x18_31 : Int).toNat ≤ 9223372036854775807) = true := decide_eq_true c45
          try have c45b2 : (9223372036854775807 < 1 + (x18_31 : Int).toNat) = False := eq_false (Nat.not_lt.2 c45)
          have c46b0 := eq_true (of_decide_eq_true (by first | (with_reducible assumption) | assumption) : 0 ≤ x18_31); have c47b0 := eq_true (of_decide_eq_true (by first | (with_reducible assumption) | assumption) : x18_31 ≤ (t184.size : Int))
          simp only [Option.some.injEq, Prod.mk.injEq] at H
          obtain ⟨rfl, rfl, rfl, rfl⟩ := H
          try go_wp2_with (first | ((with_reducible refine gate_callee (f := 73) rfl ?_); refine goesL_ (some 87) rfl rfl Try.func73 (by kernel_rfl) rfl #[.string (t184.extract 0 (x18_31 : Int).toNat)] rfl (by (try simp only [List.map_toArray, List.map_cons, List.map_nil]); first | done | rfl | (simp only [List.length_drop, List.length_take]; rfl)) ?_; (with_reducible refine (impl_nameOk.calls kj31 (t184.extract 0 (x18_31 : Int).toNat) true _ A42.out).mono ?_); rintro e w' ⟨rfl, ⟨nd, rfl⟩⟩; refine ⟨_, rfl, ?_⟩; (try (rw [drewN_self wc]; generalize hq_ : World.drewN wc _ = wc; have n0_ : Aside0 (wc.heap[gb163]? = some (.cells #[.string (⟨#[]⟩ : ByteArray), .slice none 0 0] 55 (0, 0))) := ⟨by rw [← hq_]; exact (by (with_reducible repeat first | apply blk_drewN | apply blk_drew | apply blk_alloc); exact BK163.out)⟩; have n1_ : Aside0 (Below w.heap.size w wc) := ⟨by rw [← hq_]; exact (by repeat first | (with_reducible first | exact HB.out | apply below_alloc | apply pw_below_drewN | apply below_drew1 | refine below_set ?_ GE163.out) | exact HB.out)⟩; clear BK163 HB hq_; have BK163 := n0_; have HB := n1_; clear n0_ n1_; (try (have hcq11_ : wc.cell? ⟨gb163, 0, none⟩ = some (.string (⟨#[]⟩ : ByteArray)) := (blk_cell BK163.out 0).trans rfl; have hfq11_ := blk_frozen BK163.out 0)); (try (have hcq12_ : wc.cell? ⟨gb163, 1, none⟩ = some (.slice none 0 0) := (blk_cell BK163.out 1).trans rfl; have hfq12_ := blk_frozen BK163.out 1))))))
          replace BK163 := Aside0.mk (blk_drew BK163.out); replace HB := Aside0.mk (below_drew1 HB.out)
          refine start_ (n := 9) (S := fun w' => True) (ds := []) #[ff,ff,ff,ff,ff,ff,ff,ff,ff] (by kernel_rfl) rfl rfl trivial (fun hHeld => ?_); refine with_tabW impl_takeFactor.tab18 impl_takeFactor.bits18 (fun HT_ HW_ => ?_)
          generalize wc.drew = w48 at BK163 HB hHeld ⊢
          refine pu_ 0 (some 92) (v := ?_) (a' := ?_) #[tt,ff,ff,ff,ff,ff,ff,ff,ff] HT_.out rfl rfl (by kernel_rfl) (fun _ _ _ h => h) (Or.inl ⟨by rfl, ?_⟩) ?_ ?_
          rotate_left
          ·intro w'
           go_simp
           with_reducible rfl
          rotate_left
          ·simp only [Act.put, ps_]
           rfl
          refine pu_ 1 (some 93) (v := ?_) (a' := ?_) #[tt,tt,ff,ff,ff,ff,ff,ff,ff] HT_.out rfl rfl (by kernel_rfl) (fun _ _ _ h => h) (Or.inl ⟨by rfl, ?_⟩) ?_ ?_
          rotate_left
          ·intro w'
           go_simp
           with_reducible rfl
          rotate_left
          ·simp only [Act.put, ps_]
           rfl
          refine pu_ 2 (some 94) (v := ?_) (a' := ?_) #[tt,tt,tt,ff,ff,ff,ff,ff,ff] HT_.out rfl rfl (by kernel_rfl) (fun _ _ _ h => h) (Or.inl ⟨by rfl, ?_⟩) ?_ ?_
          rotate_left
          ·intro w'
           go_simp
           with_reducible rfl
          rotate_left
          ·simp only [Act.put, ps_]
           rfl
          refine pu_ 3 (some 95) (v := ?_) (a' := ?_) #[tt,tt,tt,tt,ff,ff,ff,ff,ff] HT_.out rfl rfl (by kernel_rfl) (fun _ _ _ h => h) (Or.inl ⟨by rfl, ?_⟩) ?_ ?_
          rotate_left
          ·intro w'
           go_simp
           with_reducible rfl
          rotate_left
          ·simp only [Act.put, ps_]
           rfl
          refine pu_ 4 (some 96) (v := ?_) (a' := ?_) #[tt,tt,tt,tt,tt,ff,ff,ff,ff] HT_.out rfl rfl (by kernel_rfl) (fun _ _ _ h => h) (Or.inl ⟨by rfl, ?_⟩) ?_ ?_
          rotate_left
          ·intro w'
           go_simp
           with_reducible rfl
          rotate_left
          ·simp only [Act.put, ps_]
           rfl
          refine pu_ 5 (some 97) (v := ?_) (a' := ?_) #[tt,tt,tt,tt,tt,tt,ff,ff,ff] HT_.out rfl rfl (by kernel_rfl) (fun _ _ _ h => h) (Or.inl ⟨by rfl, ?_⟩) ?_ ?_
          rotate_left
          ·intro w'
           go_simp
           with_reducible rfl
          rotate_left
          ·simp only [Act.put, ps_]
           rfl
          refine one_ (i := 6) (N := none) #[tt,tt,tt,tt,tt,tt,tt,ff,ff] rfl rfl (one_of HT_.out (by kernel_rfl)) (by decide) (fun K hK => ?_)
          have hs49 : w48.cell? ⟨gb163, 0, none⟩ = some (.string (⟨#[]⟩ : ByteArray)) := (blk_cell BK163.out 0).trans rfl
          have hfs49 := blk_frozen BK163.out 0
          have hs50 : w48.cell? ⟨gb163, 1, none⟩ = some (.slice none 0 0) := (blk_cell BK163.out 1).trans rfl
          have hfs50 := blk_frozen BK163.out 1
          refine skip_ (w1 := ?_) (by rfl) rfl ?_ ?_
          rotate_left
          ·go_simp
           rfl
          refine hK.out _ _ trivial (fun hHeld => ?_)
          clear hK K
          refine pu_ 7 (some 3) (v := ?_) (a' := ?_) #[tt,tt,tt,tt,tt,tt,tt,tt,ff] HT_.out rfl rfl (by kernel_rfl) (fun _ _ _ h => h) (Or.inl ⟨by rfl, ?_⟩) ?_ ?_
          rotate_left
          ·intro w'
           go_simp
           with_reducible rfl
          rotate_left
          ·simp only [Act.put, ps_]
           rfl
          refine pu_ 8 (some 4) (v := ?_) (a' := ?_) #[tt,tt,tt,tt,tt,tt,tt,tt,tt] HT_.out rfl rfl (by kernel_rfl) (fun _ _ _ h => h) (Or.inl ⟨by rfl, ?_⟩) ?_ ?_
          rotate_left
          ·intro w'
           go_simp
           with_reducible rfl
          rotate_left
          ·simp only [Act.put, ps_]
           rfl
          refine done_ (done_of HT_.out (by kernel_rfl)) ?_
          try go_wp2
          refine bodyPost_ret (results_ctt rfl _ _ gb163 55 #[.string ((⟨#[64]⟩ : ByteArray) ++ (t184.extract 0 (x18_31 : Int).toNat)), .slice none 0 0] (0, 0) _ rfl (by (with_reducible repeat first | apply blk_drewN | apply blk_drew | apply blk_alloc); refine blk_put (cs := #[.string ((⟨#[64]⟩ : ByteArray) ++ (t184.extract 0 (x18_31 : Int).toNat)), .slice none 0 0]) ?_ 1 _ rfl; (with_reducible repeat first | apply blk_drewN | apply blk_drew | apply blk_alloc); refine blk_put (cs := #[.string (⟨#[]⟩ : ByteArray), .slice none 0 0]) ?_ 0 _ rfl; (with_reducible repeat first | apply blk_drewN | apply blk_drew | apply blk_alloc); exact BK163.out) Try.underlying55 rfl (by kernel_rfl)) rfl ?_
          exact ⟨_, by first | rfl | (simp [errW_none, errW_some] <;> rfl) | (simp [*, errW_none, errW_some] <;> rfl), by first | exact Kd.R_nil _ _ _ _ _ | exact Kd.N_nil _ _ _ _ _ | exact Kd.V_nil _ _ _ _ _ | exact Kd.Q_nil _ _ _ _ _ | exact Kd.S_nil _ _ _ _ _, by repeat (first | (with_reducible first | exact HB.out | apply below_alloc | apply pw_below_drewN | apply below_drew1 | refine below_set ?_ GE163.out) | exact HB.out)⟩
         ·rw [if_neg c45] at H
          exact absurd H (by simp)
        ·replace c44 := Bool.eq_false_iff.mpr c44
         subst c44
         have H1 : (some (t184.extract 0 (x18_31 : Int).toNat, ([] : List (S55)), t184.extract (x18_31 : Int).toNat t184.size, true)) = some (r1, r2, r3, r4) := by rw [if_neg (show ¬ (false = true) by decide)] at H; exact H
         clear H; have H := H1; clear H1; have c51b0 := eq_true (of_decide_eq_true (by first | (with_reducible assumption) | assumption) : 0 ≤ x18_31); have c52b0 := eq_true (of_decide_eq_true (by first | (with_reducible assumption) | assumption) : x18_31 ≤ (t184.size : Int))
         simp only [Option.some.injEq, Prod.mk.injEq] at H
         obtain ⟨rfl, rfl, rfl, rfl⟩ := H
         try go_wp2_with (first | ((with_reducible refine gate_callee (f := 73) rfl ?_); refine goesL_ (some 87) rfl rfl Try.func73 (by kernel_rfl) rfl #[.string (t184.extract 0 (x18_31 : Int).toNat)] rfl (by (try simp only [List.map_toArray, List.map_cons, List.map_nil]); first | done | rfl | (simp only [List.length_drop, List.length_take]; rfl)) ?_; (with_reducible refine (impl_nameOk.calls kj31 (t184.extract 0 (x18_31 : Int).toNat) true _ A42.out).mono ?_); rintro e w' ⟨rfl, ⟨nd, rfl⟩⟩; refine ⟨_, rfl, ?_⟩; (try (rw [drewN_self wc]; generalize hq_ : World.drewN wc _ = wc; have n0_ : Aside0 (wc.heap[gb163]? = some (.cells #[.string (⟨#[]⟩ : ByteArray), .slice none 0 0] 55 (0, 0))) := ⟨by rw [← hq_]; exact (by (with_reducible repeat first | apply blk_drewN | apply blk_drew | apply blk_alloc); exact BK163.out)⟩; have n1_ : Aside0 (Below w.heap.size w wc) := ⟨by rw [← hq_]; exact (by repeat first | (with_reducible first | exact HB.out | apply below_alloc | apply pw_below_drewN | apply below_drew1 | refine below_set ?_ GE163.out) | exact HB.out)⟩; clear BK163 HB hq_; have BK163 := n0_; have HB := n1_; clear n0_ n1_; (try (have hcq13_ : wc.cell? ⟨gb163, 0, none⟩ = some (.string (⟨#[]⟩ : ByteArray)) := (blk_cell BK163.out 0).trans rfl; have hfq13_ := blk_frozen BK163.out 0)); (try (have hcq14_ : wc.cell? ⟨gb163, 1, none⟩ = some (.slice none 0 0) := (blk_cell BK163.out 1).trans rfl; have hfq14_ := blk_frozen BK163.out 1))))))
         replace BK163 := Aside0.mk (blk_drew BK163.out); replace HB := Aside0.mk (below_drew1 HB.out)
         refine start_ (n := 8) (S := fun w' => True) (ds := []) #[ff,ff,ff,ff,ff,ff,ff,ff] (by kernel_rfl) rfl rfl trivial (fun hHeld => ?_); refine with_tabW impl_takeFactor.tab19 impl_takeFactor.bits19 (fun HT_ HW_ => ?_)
         generalize wc.drew = w53 at BK163 HB hHeld ⊢
         refine pu_ 0 (some 98) (v := ?_) (a' := ?_) #[tt,ff,ff,ff,ff,ff,ff,ff] HT_.out rfl rfl (by kernel_rfl) (fun _ _ _ h => h) (Or.inl ⟨by rfl, ?_⟩) ?_ ?_
         rotate_left
         ·intro w'
          go_simp
          with_reducible rfl
         rotate_left
         ·simp only [Act.put, ps_]
          rfl
         refine pu_ 1 (some 99) (v := ?_) (a' := ?_) #[tt,tt,ff,ff,ff,ff,ff,ff] HT_.out rfl rfl (by kernel_rfl) (fun _ _ _ h => h) (Or.inl ⟨by rfl, ?_⟩) ?_ ?_
         rotate_left
         ·intro w'
          go_simp
          with_reducible rfl
         rotate_left
         ·simp only [Act.put, ps_]
          rfl
         refine pu_ 2 (some 100) (v := ?_) (a' := ?_) #[tt,tt,tt,ff,ff,ff,ff,ff] HT_.out rfl rfl (by kernel_rfl) (fun _ _ _ h => h) (Or.inl ⟨by rfl, ?_⟩) ?_ ?_
         rotate_left
         ·intro w'
          go_simp
          with_reducible rfl
         rotate_left
         ·simp only [Act.put, ps_]
          rfl
         refine pu_ 3 (some 101) (v := ?_) (a' := ?_) #[tt,tt,tt,tt,ff,ff,ff,ff] HT_.out rfl rfl (by kernel_rfl) (fun _ _ _ h => h) (Or.inl ⟨by rfl, ?_⟩) ?_ ?_
         rotate_left
         ·intro w'
          go_simp
          with_reducible rfl
         rotate_left
         ·simp only [Act.put, ps_]
          rfl
         refine pu_ 4 (some 102) (v := ?_) (a' := ?_) #[tt,tt,tt,tt,tt,ff,ff,ff] HT_.out rfl rfl (by kernel_rfl) (fun _ _ _ h => h) (Or.inl ⟨by rfl, ?_⟩) ?_ ?_
         rotate_left
         ·intro w'
          go_simp
          with_reducible rfl
         rotate_left
         ·simp only [Act.put, ps_]
          rfl
         refine one_ (i := 5) (N := none) #[tt,tt,tt,tt,tt,tt,ff,ff] rfl rfl (one_of HT_.out (by kernel_rfl)) (by decide) (fun K hK => ?_)
         have hs54 : w53.cell? ⟨gb163, 0, none⟩ = some (.string (⟨#[]⟩ : ByteArray)) := (blk_cell BK163.out 0).trans rfl
         have hfs54 := blk_frozen BK163.out 0
         have hs55 : w53.cell? ⟨gb163, 1, none⟩ = some (.slice none 0 0) := (blk_cell BK163.out 1).trans rfl
         have hfs55 := blk_frozen BK163.out 1
         refine skip_ (w1 := ?_) (by rfl) rfl ?_ ?_
         rotate_left
         ·go_simp
          rfl
         refine hK.out _ _ trivial (fun hHeld => ?_)
         clear hK K
         refine pu_ 6 (some 3) (v := ?_) (a' := ?_) #[tt,tt,tt,tt,tt,tt,tt,ff] HT_.out rfl rfl (by kernel_rfl) (fun _ _ _ h => h) (Or.inl ⟨by rfl, ?_⟩) ?_ ?_
         rotate_left
         ·intro w'
          go_simp
          with_reducible rfl
         rotate_left
         ·simp only [Act.put, ps_]
          rfl
         refine pu_ 7 (some 4) (v := ?_) (a' := ?_) #[tt,tt,tt,tt,tt,tt,tt,tt] HT_.out rfl rfl (by kernel_rfl) (fun _ _ _ h => h) (Or.inl ⟨by rfl, ?_⟩) ?_ ?_
         rotate_left
         ·intro w'
          go_simp
          with_reducible rfl
         rotate_left
         ·simp only [Act.put, ps_]
          rfl
         refine done_ (done_of HT_.out (by kernel_rfl)) ?_
         try go_wp2
         refine bodyPost_ret (results_ctt rfl _ _ gb163 55 #[.string (t184.extract 0 (x18_31 : Int).toNat), .slice none 0 0] (0, 0) _ rfl (by (with_reducible repeat first | apply blk_drewN | apply blk_drew | apply blk_alloc); refine blk_put (cs := #[.string (t184.extract 0 (x18_31 : Int).toNat), .slice none 0 0]) ?_ 1 _ rfl; (with_reducible repeat first | apply blk_drewN | apply blk_drew | apply blk_alloc); refine blk_put (cs := #[.string (⟨#[]⟩ : ByteArray), .slice none 0 0]) ?_ 0 _ rfl; (with_reducible repeat first | apply blk_drewN | apply blk_drew | apply blk_alloc); exact BK163.out) Try.underlying55 rfl (by kernel_rfl)) rfl ?_
         exact ⟨_, by first | rfl | (simp [errW_none, errW_some] <;> rfl) | (simp [*, errW_none, errW_some] <;> rfl), by first | exact Kd.R_nil _ _ _ _ _ | exact Kd.N_nil _ _ _ _ _ | exact Kd.V_nil _ _ _ _ _ | exact Kd.Q_nil _ _ _ _ _ | exact Kd.S_nil _ _ _ _ _, by repeat (first | (with_reducible first | exact HB.out | apply below_alloc | apply pw_below_drewN | apply below_drew1 | refine below_set ?_ GE163.out) | exact HB.out)⟩
       ·replace c43 := Bool.eq_false_iff.mpr c43
        subst c43
        have H1 : (some ((⟨#[]⟩ : ByteArray), ([] : List (S55)), a0, false)) = some (r1, r2, r3, r4) := by rw [if_neg (show ¬ (false = true) by decide)] at H; exact H
        clear H; have H := H1; clear H1
        simp only [Option.some.injEq, Prod.mk.injEq] at H
        obtain ⟨rfl, rfl, rfl, rfl⟩ := H
        go_wp2_with (first | ((with_reducible refine gate_callee (f := 73) rfl ?_); refine goesL_ (some 87) rfl rfl Try.func73 (by kernel_rfl) rfl #[.string (t184.extract 0 (x18_31 : Int).toNat)] rfl (by (try simp only [List.map_toArray, List.map_cons, List.map_nil]); first | done | rfl | (simp only [List.length_drop, List.length_take]; rfl)) ?_; (with_reducible refine (impl_nameOk.calls kj31 (t184.extract 0 (x18_31 : Int).toNat) false _ A42.out).mono ?_); rintro e w' ⟨rfl, ⟨nd, rfl⟩⟩; refine ⟨_, rfl, ?_⟩; (try (rw [drewN_self wc]; generalize hq_ : World.drewN wc _ = wc; have n0_ : Aside0 (wc.heap[gb163]? = some (.cells #[.string (⟨#[]⟩ : ByteArray), .slice none 0 0] 55 (0, 0))) := ⟨by rw [← hq_]; exact (by (with_reducible repeat first | apply blk_drewN | apply blk_drew | apply blk_alloc); exact BK163.out)⟩; have n1_ : Aside0 (Below w.heap.size w wc) := ⟨by rw [← hq_]; exact (by repeat first | (with_reducible first | exact HB.out | apply below_alloc | apply pw_below_drewN | apply below_drew1 | refine below_set ?_ GE163.out) | exact HB.out)⟩; clear BK163 HB hq_; have BK163 := n0_; have HB := n1_; clear n0_ n1_; (try (have hcq15_ : wc.cell? ⟨gb163, 0, none⟩ = some (.string (⟨#[]⟩ : ByteArray)) := (blk_cell BK163.out 0).trans rfl; have hfq15_ := blk_frozen BK163.out 0)); (try (have hcq16_ : wc.cell? ⟨gb163, 1, none⟩ = some (.slice none 0 0) := (blk_cell BK163.out 1).trans rfl; have hfq16_ := blk_frozen BK163.out 1)))); have hcz56_0 : wc.cell? ⟨gb163, 0, none⟩ = some (.string (⟨#[]⟩ : ByteArray)) := (blk_cell BK163.out 0).trans rfl; have hcz56_1 : wc.cell? ⟨gb163, 1, none⟩ = some (.slice none 0 0) := (blk_cell BK163.out 1).trans rfl; have hfz56_0 := blk_frozen BK163.out 0; have hfz56_1 := blk_frozen BK163.out 1))
        refine bodyPost_ret (results_ctt rfl _ _ gb163 55 #[.string (⟨#[]⟩ : ByteArray), .slice none 0 0] (0, 0) _ rfl (by (with_reducible repeat first | apply blk_drewN | apply blk_drew | apply blk_alloc); refine blk_put (cs := #[.string (⟨#[]⟩ : ByteArray), .slice none 0 0]) ?_ 1 _ rfl; (with_reducible repeat first | apply blk_drewN | apply blk_drew | apply blk_alloc); refine blk_put (cs := #[.string (⟨#[]⟩ : ByteArray), .slice none 0 0]) ?_ 0 _ rfl; (with_reducible repeat first | apply blk_drewN | apply blk_drew | apply blk_alloc); exact BK163.out) Try.underlying55 rfl (by kernel_rfl)) rfl ?_
        exact ⟨_, by first | rfl | (simp [errW_none, errW_some] <;> rfl) | (simp [*, errW_none, errW_some] <;> rfl), by first | exact Kd.R_nil _ _ _ _ _ | exact Kd.N_nil _ _ _ _ _ | exact Kd.V_nil _ _ _ _ _ | exact Kd.Q_nil _ _ _ _ _ | exact Kd.S_nil _ _ _ _ _, by repeat (first | (with_reducible first | exact HB.out | apply below_alloc | apply pw_below_drewN | apply below_drew1 | refine below_set ?_ GE163.out) | exact HB.out)⟩
      ·rw [if_neg c41] at H
       exact absurd H (by simp)
     ·rw [if_neg c40] at H
      exact absurd H (by simp)
/-- takeRow, asked with the word 'or'; of other words nothing is said. -/
def impl_takeRow.f (k : Nat) (a0 a1 : ByteArray) : Option (ByteArray × (List S55) × ByteArray × Bool) := if a1 = ⟨#[111, 114]⟩ then orRow (impl_takeFactor.f k) k a0 else none
theorem impl_takeRow.mono : ∀ a0 a1 k, LeO (impl_takeRow.f k a0 a1) (impl_takeRow.f (k + 1) a0 a1) := fun a0 a1 k => LeO.ite (impl_row.mono (impl_row.mono (impl_takeFactor.mono k) _ _ k) _ _ k a0) (LeO.refl _)
theorem impl_takeRow.calls (k : Nat) (a0 a1 : ByteArray) (r1 : ByteArray) (r2 : List (S55)) (r3 : ByteArray) (r4 : Bool) (w : World) (h : impl_takeRow.f k a0 a1 = some (r1, r2, r3, r4)) :
  Calls Try.prog 69 #[.string a0, .string a1] w fun e w' => ∃ v1_ : Value, e = .returned (.tuple #[.agg #[.string r1, v1_], .string r3, .bool r4]) ∧ Kd.R k55 55 w' w.heap.size (fun _ => True) v1_ r2 ∧ Below w.heap.size w w' := by
 unfold impl_takeRow.f at h
 split at h
 ·next e =>
  subst e
  exact orRow.calls (impl_takeFactor.f k) ⟨fun s r1 r2 r3 r4 w h => impl_takeFactor.calls k s r1 r2 r3 r4 w h⟩ k a0 r1 r2 r3 r4 w h
 ·cases h

/-! ### impl_readExpr: function 46 -/
def impl_readExpr.f (k : Nat) (a0 : ByteArray) : Option (ByteArray × (List (S55)) × Bool) := if (a0.size : Int) > 60 then (some ((⟨#[]⟩ : ByteArray), ([] : List (S55)), false)) else ((impl_takeRow.f k a0 (⟨#[111, 114]⟩ : ByteArray)).bind fun bt173 => (if bt173.2.2.2 = true then (some (bt173.1, bt173.2.1, (bt173.2.2.1.toList == ([] : List UInt8)))) else (some (bt173.1, bt173.2.1, false))))
theorem impl_readExpr.mono : ∀ a0 k, LeO (impl_readExpr.f k a0) (impl_readExpr.f (k + 1) a0) := by
 intro a0 k
 unfold impl_readExpr.f
 repeat' first
   | (with_reducible exact impl_takeRow.mono _ _ _)
   | (with_reducible exact LeO.refl _)
   | (with_reducible exact LeO.none _)
   | (with_reducible refine LeO.ite ?_ ?_)
   | (with_reducible refine LeO.bind ?_ (fun _ => ?_))
   | refine LeO.ite ?_ ?_
   | refine LeO.bind ?_ (fun _ => ?_)
set_option maxHeartbeats 8000000 in
set_option maxRecDepth 100000 in
theorem impl_readExpr.calls (k : Nat) (a0 : ByteArray) (r1 : ByteArray) (r2 : List (S55)) (r3 : Bool) (w : World) (h : impl_readExpr.f k a0 = some (r1, r2, r3)) :
  Calls Try.prog 46 #[.string a0] w fun e w' => ∃ v1_ : Value, e = .returned (.tuple #[.agg #[.string r1, v1_], .bool r3]) ∧ Kd.R k55 55 w' w.heap.size (fun _ => True) v1_ r2 ∧ Below w.heap.size w w' := by
 have hu55 := Try.underlying55; have HB := Aside0.mk (Below.refl w.heap.size w)
 have H : (if (a0.size : Int) > 60 then (some ((⟨#[]⟩ : ByteArray), ([] : List (S55)), false)) else ((impl_takeRow.f k a0 (⟨#[111, 114]⟩ : ByteArray)).bind fun bt173 => (if bt173.2.2.2 = true then (some (bt173.1, bt173.2.1, (bt173.2.2.1.toList == ([] : List UInt8)))) else (some (bt173.1, bt173.2.1, false))))) = some (r1, r2, r3) := h
 clear h
 by_cases c2 : (a0.size : Int) > 60
 ·rw [if_pos c2] at H
  have c2b0 : decide (60 < (a0.size : Int)) = true := decide_eq_true c2
  have c2b1 : decide (60 < a0.size) = true := decide_eq_true (by omega)
  clear c2
  simp only [Option.some.injEq, Prod.mk.injEq] at H
  obtain ⟨rfl, rfl, rfl⟩ := H
  go_enter Try.func46, Try.ntmps46
  go_wp2_with (first | ((with_reducible refine gate_dst (N := 2) rfl ?_); refine box_event ?hg (N := 2) ?hd (cs := #[.string (⟨#[]⟩ : ByteArray), .slice none 0 0]) (t := 55) ?hr ?_; (case hd => rfl); (case hg => rfl); (case hr => first | (go_simp; done) | (go_simp; rfl)); intro gb172 hg w3 hbox hb; have BK172 := Aside0.mk (hbox); have GW172 := Aside0.mk ((by rw [hg]; exact (below_size (by repeat first | (with_reducible first | exact HB.out | apply below_alloc | apply pw_below_drewN | apply below_drew1) | exact HB.out)) : w.heap.size ≤ gb172)); have GE172 := Aside0.mk ((by rw [hg]; exact (below_size (by repeat first | (with_reducible first | exact HB.out | apply below_alloc | apply pw_below_drewN | apply below_drew1) | exact HB.out)) : w.heap.size ≤ gb172)); replace HB := Aside0.mk (below_step (by repeat first | (with_reducible first | exact HB.out | apply below_alloc | apply pw_below_drewN | apply below_drew1) | exact HB.out) hb); clear hb hbox hg; have hcz4_0 : w3.cell? ⟨gb172, 0, none⟩ = some (.string (⟨#[]⟩ : ByteArray)) := (blk_cell BK172.out 0).trans rfl; have hcz4_1 : w3.cell? ⟨gb172, 1, none⟩ = some (.slice none 0 0) := (blk_cell BK172.out 1).trans rfl; have hfz4_0 := blk_frozen BK172.out 0; have hfz4_1 := blk_frozen BK172.out 1))
  refine bodyPost_ret (results_ct rfl _ _ gb172 55 #[.string (⟨#[]⟩ : ByteArray), .slice none 0 0] (0, 0) _ rfl (by (with_reducible repeat first | apply blk_drewN | apply blk_drew | apply blk_alloc); refine blk_put (cs := #[.string (⟨#[]⟩ : ByteArray), .slice none 0 0]) ?_ 1 _ rfl; (with_reducible repeat first | apply blk_drewN | apply blk_drew | apply blk_alloc); refine blk_put (cs := #[.string (⟨#[]⟩ : ByteArray), .slice none 0 0]) ?_ 0 _ rfl; (with_reducible repeat first | apply blk_drewN | apply blk_drew | apply blk_alloc); exact BK172.out) Try.underlying55 rfl (by kernel_rfl)) rfl ?_
  exact ⟨_, by first | rfl | (simp [errW_none, errW_some] <;> rfl) | (simp [*, errW_none, errW_some] <;> rfl), by first | exact Kd.R_nil _ _ _ _ _ | exact Kd.N_nil _ _ _ _ _ | exact Kd.V_nil _ _ _ _ _ | exact Kd.Q_nil _ _ _ _ _ | exact Kd.S_nil _ _ _ _ _, by repeat (first | (with_reducible first | exact HB.out | apply below_alloc | apply pw_below_drewN | apply below_drew1 | refine below_set ?_ GE172.out) | exact HB.out)⟩
 ·rw [if_neg c2] at H
  have c2b0 : decide (60 < (a0.size : Int)) = false := decide_eq_false c2
  have c2b1 : decide (60 < a0.size) = false := decide_eq_false (by omega)
  clear c2
  replace H := Option.bind_eq_some_iff.mp H
  obtain ⟨⟨t173, t174, t177, t178⟩, A50, H⟩ := H
  replace H : (if t178 = true then (some (t173, t174, (t177.toList == ([] : List UInt8)))) else (some (t173, t174, false))) = some (r1, r2, r3) := H
  have A5 := Aside0.mk A50; clear A50
  by_cases c6 : t178 = true
  ·subst c6
   have H1 : (some (t173, t174, (t177.toList == ([] : List UInt8)))) = some (r1, r2, r3) := by rw [if_pos rfl] at H; exact H
   clear H; have H := H1; clear H1
   simp only [Option.some.injEq, Prod.mk.injEq] at H
   obtain ⟨rfl, rfl, rfl⟩ := H
   go_enter Try.func46, Try.ntmps46
   go_wp2_with (first | ((with_reducible refine gate_dst (N := 2) rfl ?_); refine box_event ?hg (N := 2) ?hd (cs := #[.string (⟨#[]⟩ : ByteArray), .slice none 0 0]) (t := 55) ?hr ?_; (case hd => rfl); (case hg => rfl); (case hr => first | (go_simp; done) | (go_simp; rfl)); intro gb172 hg w7 hbox hb; have BK172 := Aside0.mk (hbox); have GW172 := Aside0.mk ((by rw [hg]; exact (below_size (by repeat first | (with_reducible first | exact HB.out | apply below_alloc | apply pw_below_drewN | apply below_drew1) | exact HB.out)) : w.heap.size ≤ gb172)); have GE172 := Aside0.mk ((by rw [hg]; exact (below_size (by repeat first | (with_reducible first | exact HB.out | apply below_alloc | apply pw_below_drewN | apply below_drew1) | exact HB.out)) : w.heap.size ≤ gb172)); replace HB := Aside0.mk (below_step (by repeat first | (with_reducible first | exact HB.out | apply below_alloc | apply pw_below_drewN | apply below_drew1) | exact HB.out) hb); clear hb hbox hg) | ((with_reducible refine gate_callee (f := 69) rfl ?_); refine goesL_ (some 13) rfl rfl Try.func69 (by kernel_rfl) rfl #[.string a0, .string (⟨#[111, 114]⟩ : ByteArray)] rfl (by (try simp only [List.map_toArray, List.map_cons, List.map_nil]); first | done | rfl) ?_; (with_reducible refine (impl_takeRow.calls k a0 (⟨#[111, 114]⟩ : ByteArray) t173 t174 t177 true _ A5.out).mono ?_); rintro e w8 ⟨v175, rfl, ho0, hb⟩; refine ⟨_, rfl, ?_⟩; have HO176 := Aside0.mk (Kd.R_lower (Kd.R_newB ho0 (g := gb172) (o := .cells #[.string (⟨#[]⟩ : ByteArray), .slice none 0 0] 55 (0, 0)) (by (with_reducible repeat first | apply blk_drewN | apply blk_drew | apply blk_alloc); exact BK172.out)) (below_size (by repeat first | (with_reducible first | exact HB.out | apply below_alloc | apply pw_below_drewN | apply below_drew1 | refine below_set ?_ GE172.out) | exact HB.out))); replace BK172 := Aside0.mk (blk_below (g := gb172) (o := .cells #[.string (⟨#[]⟩ : ByteArray), .slice none 0 0] 55 (0, 0)) (by (with_reducible repeat first | apply blk_drewN | apply blk_drew | apply blk_alloc); exact BK172.out) hb); replace HB := Aside0.mk (below_step (by repeat first | (with_reducible first | exact HB.out | apply below_alloc | apply pw_below_drewN | apply below_drew1 | refine below_set ?_ GE172.out) | exact HB.out) hb); (try clear hb); (try clear ho0)) | ((with_reducible refine gate_dst (N := 4) rfl ?_); refine box_event ?hg (N := 4) ?hd (cs := #[.string (⟨#[]⟩ : ByteArray), .slice none 0 0]) (t := 55) ?hr ?_; (case hd => rfl); (case hg => rfl); (case hr => first | (go_simp; done) | (go_simp; rfl)); intro gb179 hg w9 hbox hb; replace HO176 := Aside0.mk (Kd.R_below (Kd.R_elderB (by (with_reducible repeat first | apply Kd.R_alloc | apply Kd.R_drewN | apply Kd.R_drew); exact HO176.out) gb179 (Nat.le_of_eq hg.symm)) hb); have BK179 := Aside0.mk (hbox); have GW179 := Aside0.mk ((by rw [hg]; exact (below_size (by repeat first | (with_reducible first | exact HB.out | apply below_alloc | apply pw_below_drewN | apply below_drew1 | refine below_set ?_ GE172.out) | exact HB.out)) : w.heap.size ≤ gb179)); have GE179 := Aside0.mk ((by rw [hg]; exact (below_size (by repeat first | (with_reducible first | exact HB.out | apply below_alloc | apply pw_below_drewN | apply below_drew1 | refine below_set ?_ GE172.out) | exact HB.out)) : w.heap.size ≤ gb179)); replace HB := Aside0.mk (below_step (by repeat first | (with_reducible first | exact HB.out | apply below_alloc | apply pw_below_drewN | apply below_drew1 | refine below_set ?_ GE172.out) | exact HB.out) hb); have NB172_179 := Aside0.mk ((by rw [hg]; exact Nat.ne_of_lt (blk_lt (g := gb172) (o := .cells #[.string (⟨#[]⟩ : ByteArray), .slice none 0 0] 55 (0, 0)) (by (with_reducible repeat first | apply blk_drewN | apply blk_drew | apply blk_alloc); exact BK172.out)) : gb172 ≠ gb179)); have NB179_172 := Aside0.mk ((by rw [hg]; exact Nat.ne_of_gt (blk_lt (g := gb172) (o := .cells #[.string (⟨#[]⟩ : ByteArray), .slice none 0 0] 55 (0, 0)) (by (with_reducible repeat first | apply blk_drewN | apply blk_drew | apply blk_alloc); exact BK172.out)) : gb179 ≠ gb172)); replace BK172 := Aside0.mk (blk_below (g := gb172) (o := .cells #[.string (⟨#[]⟩ : ByteArray), .slice none 0 0] 55 (0, 0)) (by (with_reducible repeat first | apply blk_drewN | apply blk_drew | apply blk_alloc); exact BK172.out) hb); clear hb hbox hg; have hnb10 := NB179_172.out; have hnc10 := NB172_179.out; have hcz11_0 : w9.cell? ⟨gb179, 0, none⟩ = some (.string (⟨#[]⟩ : ByteArray)) := (blk_cell BK179.out 0).trans rfl; have hcz11_1 : w9.cell? ⟨gb179, 1, none⟩ = some (.slice none 0 0) := (blk_cell BK179.out 1).trans rfl; have hfz11_0 := blk_frozen BK179.out 0; have hfz11_1 := blk_frozen BK179.out 1; obtain ⟨Ao12, co12, eo12⟩ := Kd.R_slice HO176.out; subst eo12; have hcz13_0 : w9.cell? ⟨gb172, 0, none⟩ = some (.string (⟨#[]⟩ : ByteArray)) := (blk_cell BK172.out 0).trans rfl; have hcz13_1 : w9.cell? ⟨gb172, 1, none⟩ = some (.slice none 0 0) := (blk_cell BK172.out 1).trans rfl; have hfz13_0 := blk_frozen BK172.out 0; have hfz13_1 := blk_frozen BK172.out 1))
   refine bodyPost_ret (results_ct rfl _ _ gb172 55 #[.string t173, .slice Ao12 t174.length co12] (0, 0) _ rfl (by (with_reducible repeat first | apply blk_drewN | apply blk_drew | apply blk_alloc); refine blk_put (cs := #[.string t173, .slice none 0 0]) ?_ 1 _ rfl; (with_reducible repeat first | apply blk_drewN | apply blk_drew | apply blk_alloc); refine blk_put (cs := #[.string (⟨#[]⟩ : ByteArray), .slice none 0 0]) ?_ 0 _ rfl; (with_reducible repeat first | apply blk_drewN | apply blk_drew | apply blk_alloc); refine blk_far ?_ NB172_179.out _; (with_reducible repeat first | apply blk_drewN | apply blk_drew | apply blk_alloc); refine blk_far ?_ NB172_179.out _; (with_reducible repeat first | apply blk_drewN | apply blk_drew | apply blk_alloc); exact BK172.out) Try.underlying55 rfl (by kernel_rfl)) rfl ?_
   exact ⟨_, by first | rfl | (simp [errW_none, errW_some] <;> rfl) | (simp [*, errW_none, errW_some] <;> rfl), by (with_reducible repeat first | apply Kd.R_alloc | apply Kd.R_drewN | apply Kd.R_drew); exact Kd.R_mono (Kd.R_far (p := ⟨gb172, 1, none⟩) (Kd.R_far (p := ⟨gb172, 0, none⟩) (Kd.R_far (p := ⟨gb179, 1, none⟩) (Kd.R_far (p := ⟨gb179, 0, none⟩) (Kd.R_mono (Kd.R_mono HO176.out (fun k_ hk => (⟨hk, hk.2⟩ : _ ∧ k_ ≠ gb179))) (fun k_ hk => (⟨hk, hk.1.1.2⟩ : _ ∧ k_ ≠ gb172))) (fun _ hk => hk.1.2) (.string t173)) (fun _ hk => hk.1.2) (.slice Ao12 t174.length co12)) (fun _ hk => hk.2) (.string t173)) (fun _ hk => hk.2) (.slice Ao12 t174.length co12)) (fun _ hk => trivial), by repeat (first | (with_reducible first | exact HB.out | apply below_alloc | apply pw_below_drewN | apply below_drew1 | refine below_set ?_ GE172.out | refine below_set ?_ GE179.out) | exact HB.out)⟩
  ·replace c6 := Bool.eq_false_iff.mpr c6
   subst c6
   have H1 : (some (t173, t174, false)) = some (r1, r2, r3) := by rw [if_neg (show ¬ (false = true) by decide)] at H; exact H
   clear H; have H := H1; clear H1
   simp only [Option.some.injEq, Prod.mk.injEq] at H
   obtain ⟨rfl, rfl, rfl⟩ := H
   go_enter Try.func46, Try.ntmps46
   go_wp2_with (first | ((with_reducible refine gate_dst (N := 2) rfl ?_); refine box_event ?hg (N := 2) ?hd (cs := #[.string (⟨#[]⟩ : ByteArray), .slice none 0 0]) (t := 55) ?hr ?_; (case hd => rfl); (case hg => rfl); (case hr => first | (go_simp; done) | (go_simp; rfl)); intro gb172 hg w14 hbox hb; have BK172 := Aside0.mk (hbox); have GW172 := Aside0.mk ((by rw [hg]; exact (below_size (by repeat first | (with_reducible first | exact HB.out | apply below_alloc | apply pw_below_drewN | apply below_drew1) | exact HB.out)) : w.heap.size ≤ gb172)); have GE172 := Aside0.mk ((by rw [hg]; exact (below_size (by repeat first | (with_reducible first | exact HB.out | apply below_alloc | apply pw_below_drewN | apply below_drew1) | exact HB.out)) : w.heap.size ≤ gb172)); replace HB := Aside0.mk (below_step (by repeat first | (with_reducible first | exact HB.out | apply below_alloc | apply pw_below_drewN | apply below_drew1) | exact HB.out) hb); clear hb hbox hg) | ((with_reducible refine gate_callee (f := 69) rfl ?_); refine goesL_ (some 13) rfl rfl Try.func69 (by kernel_rfl) rfl #[.string a0, .string (⟨#[111, 114]⟩ : ByteArray)] rfl (by (try simp only [List.map_toArray, List.map_cons, List.map_nil]); first | done | rfl) ?_; (with_reducible refine (impl_takeRow.calls k a0 (⟨#[111, 114]⟩ : ByteArray) t173 t174 t177 false _ A5.out).mono ?_); rintro e w15 ⟨v175, rfl, ho0, hb⟩; refine ⟨_, rfl, ?_⟩; have HO176 := Aside0.mk (Kd.R_lower (Kd.R_newB ho0 (g := gb172) (o := .cells #[.string (⟨#[]⟩ : ByteArray), .slice none 0 0] 55 (0, 0)) (by (with_reducible repeat first | apply blk_drewN | apply blk_drew | apply blk_alloc); exact BK172.out)) (below_size (by repeat first | (with_reducible first | exact HB.out | apply below_alloc | apply pw_below_drewN | apply below_drew1 | refine below_set ?_ GE172.out) | exact HB.out))); replace BK172 := Aside0.mk (blk_below (g := gb172) (o := .cells #[.string (⟨#[]⟩ : ByteArray), .slice none 0 0] 55 (0, 0)) (by (with_reducible repeat first | apply blk_drewN | apply blk_drew | apply blk_alloc); exact BK172.out) hb); replace HB := Aside0.mk (below_step (by repeat first | (with_reducible first | exact HB.out | apply below_alloc | apply pw_below_drewN | apply below_drew1 | refine below_set ?_ GE172.out) | exact HB.out) hb); (try clear hb); (try clear ho0)) | ((with_reducible refine gate_dst (N := 4) rfl ?_); refine box_event ?hg (N := 4) ?hd (cs := #[.string (⟨#[]⟩ : ByteArray), .slice none 0 0]) (t := 55) ?hr ?_; (case hd => rfl); (case hg => rfl); (case hr => first | (go_simp; done) | (go_simp; rfl)); intro gb179 hg w16 hbox hb; replace HO176 := Aside0.mk (Kd.R_below (Kd.R_elderB (by (with_reducible repeat first | apply Kd.R_alloc | apply Kd.R_drewN | apply Kd.R_drew); exact HO176.out) gb179 (Nat.le_of_eq hg.symm)) hb); have BK179 := Aside0.mk (hbox); have GW179 := Aside0.mk ((by rw [hg]; exact (below_size (by repeat first | (with_reducible first | exact HB.out | apply below_alloc | apply pw_below_drewN | apply below_drew1 | refine below_set ?_ GE172.out) | exact HB.out)) : w.heap.size ≤ gb179)); have GE179 := Aside0.mk ((by rw [hg]; exact (below_size (by repeat first | (with_reducible first | exact HB.out | apply below_alloc | apply pw_below_drewN | apply below_drew1 | refine below_set ?_ GE172.out) | exact HB.out)) : w.heap.size ≤ gb179)); replace HB := Aside0.mk (below_step (by repeat first | (with_reducible first | exact HB.out | apply below_alloc | apply pw_below_drewN | apply below_drew1 | refine below_set ?_ GE172.out) | exact HB.out) hb); have NB172_179 := Aside0.mk ((by rw [hg]; exact Nat.ne_of_lt (blk_lt (g := gb172) (o := .cells #[.string (⟨#[]⟩ : ByteArray), .slice none 0 0] 55 (0, 0)) (by (with_reducible repeat first | apply blk_drewN | apply blk_drew | apply blk_alloc); exact BK172.out)) : gb172 ≠ gb179)); have NB179_172 := Aside0.mk ((by rw [hg]; exact Nat.ne_of_gt (blk_lt (g := gb172) (o := .cells #[.string (⟨#[]⟩ : ByteArray), .slice none 0 0] 55 (0, 0)) (by (with_reducible repeat first | apply blk_drewN | apply blk_drew | apply blk_alloc); exact BK172.out)) : gb179 ≠ gb172)); replace BK172 := Aside0.mk (blk_below (g := gb172) (o := .cells #[.string (⟨#[]⟩ : ByteArray), .slice none 0 0] 55 (0, 0)) (by (with_reducible repeat first | apply blk_drewN | apply blk_drew | apply blk_alloc); exact BK172.out) hb); clear hb hbox hg; have hnb17 := NB179_172.out; have hnc17 := NB172_179.out; have hcz18_0 : w16.cell? ⟨gb179, 0, none⟩ = some (.string (⟨#[]⟩ : ByteArray)) := (blk_cell BK179.out 0).trans rfl; have hcz18_1 : w16.cell? ⟨gb179, 1, none⟩ = some (.slice none 0 0) := (blk_cell BK179.out 1).trans rfl; have hfz18_0 := blk_frozen BK179.out 0; have hfz18_1 := blk_frozen BK179.out 1; obtain ⟨Ao19, co19, eo19⟩ := Kd.R_slice HO176.out; subst eo19; have hcz20_0 : w16.cell? ⟨gb172, 0, none⟩ = some (.string (⟨#[]⟩ : ByteArray)) := (blk_cell BK172.out 0).trans rfl; have hcz20_1 : w16.cell? ⟨gb172, 1, none⟩ = some (.slice none 0 0) := (blk_cell BK172.out 1).trans rfl; have hfz20_0 := blk_frozen BK172.out 0; have hfz20_1 := blk_frozen BK172.out 1))
   refine bodyPost_ret (results_ct rfl _ _ gb172 55 #[.string t173, .slice Ao19 t174.length co19] (0, 0) _ rfl (by (with_reducible repeat first | apply blk_drewN | apply blk_drew | apply blk_alloc); refine blk_put (cs := #[.string t173, .slice none 0 0]) ?_ 1 _ rfl; (with_reducible repeat first | apply blk_drewN | apply blk_drew | apply blk_alloc); refine blk_put (cs := #[.string (⟨#[]⟩ : ByteArray), .slice none 0 0]) ?_ 0 _ rfl; (with_reducible repeat first | apply blk_drewN | apply blk_drew | apply blk_alloc); refine blk_far ?_ NB172_179.out _; (with_reducible repeat first | apply blk_drewN | apply blk_drew | apply blk_alloc); refine blk_far ?_ NB172_179.out _; (with_reducible repeat first | apply blk_drewN | apply blk_drew | apply blk_alloc); exact BK172.out) Try.underlying55 rfl (by kernel_rfl)) rfl ?_
   exact ⟨_, by first | rfl | (simp [errW_none, errW_some] <;> rfl) | (simp [*, errW_none, errW_some] <;> rfl), by (with_reducible repeat first | apply Kd.R_alloc | apply Kd.R_drewN | apply Kd.R_drew); exact Kd.R_mono (Kd.R_far (p := ⟨gb172, 1, none⟩) (Kd.R_far (p := ⟨gb172, 0, none⟩) (Kd.R_far (p := ⟨gb179, 1, none⟩) (Kd.R_far (p := ⟨gb179, 0, none⟩) (Kd.R_mono (Kd.R_mono HO176.out (fun k_ hk => (⟨hk, hk.2⟩ : _ ∧ k_ ≠ gb179))) (fun k_ hk => (⟨hk, hk.1.1.2⟩ : _ ∧ k_ ≠ gb172))) (fun _ hk => hk.1.2) (.string t173)) (fun _ hk => hk.1.2) (.slice Ao19 t174.length co19)) (fun _ hk => hk.2) (.string t173)) (fun _ hk => hk.2) (.slice Ao19 t174.length co19)) (fun _ hk => trivial), by repeat (first | (with_reducible first | exact HB.out | apply below_alloc | apply pw_below_drewN | apply below_drew1 | refine below_set ?_ GE172.out | refine below_set ?_ GE179.out) | exact HB.out)⟩

end Go.Proofs.Ytdllommmccgleaa.Y
