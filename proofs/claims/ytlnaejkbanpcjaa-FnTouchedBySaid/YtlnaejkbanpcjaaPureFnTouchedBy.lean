/- The law FnTouchedBy answers true for every code: TouchedBy is what the reference says, line by line it gives the same tests, each once. Its one condition: the code is a slice of bytes that fits into memory. -/
import Derived.Test.YtlnaejkbanpcjaaFx0
import Derived.Test.YtlnaejkbanpcjaaFx4
import Derived.Test.YtlnaejkbanpcjaaFx9
import Derived.Test.YtlnaejkbanpcjaaLFnTouchedBy
namespace Go.Proofs.Ytlnaejkbanpcjaa.Pure
open Go.RowKit Go.Proofs.Ytlnaejkbanpcjaa.F Go.Proofs.YtlnaejkbanpcjaaW.PrintWords Go.Proofs.YtlnaejkbanpcjaaW.PrintLast

theorem drawTouched_l0 {b : List Int} (hb : Code_ b) : ∀ (n : Nat) (l : List Int) (p : Int), l.length + n ≤ 10 → 0 ≤ p → p + n ≤ 100 → ∃ R r, Ev (fun k => spec_DrawTouchedBy.l0 k l (n : Int) b p) (R, r) ∧ SmallCovers R ∧ r.length ≤ 10 := by
  intro n
  induction n with
  | zero =>
    intro l p hl h0 h1
    have key : ∀ m : Int, ¬ m > 0 → ∃ R r, Ev (fun k => spec_DrawTouchedBy.l0 k l m b p) (R, r) ∧ SmallCovers R ∧ r.length ≤ 10 := by
      intro m hm
      obtain ⟨R, p', he, hs, _, _⟩ := someCovers_ev hb p h0 (by omega)
      exact ⟨R, l, Ev.step (fun k => rfl) (Ev.iteF hm (Ev.bind he (Ev.some_ rfl))), hs, by omega⟩
    exact key _ (by omega)
  | succ n ih =>
    intro l p hl h0 h1
    obtain ⟨y, hy, he⟩ := one_ev hb p h0 (by omega) [1, 2, 3, 4, 5, 8, 30] (by decide) (by decide)
    have ew : wrap64 (((n + 1 : Nat) : Int) - 1) = (n : Int) := by rw [wrapI (by omega)]; omega
    obtain ⟨R, r, hr, hs, g⟩ := ih (l ++ [y]) (p + 1) (by simp; omega) (by omega) (by omega)
    refine ⟨R, r, Ev.step (fun k => rfl) (Ev.iteT (by omega) (Ev.bind he (Ev.iteT (by omega) ?_))), hs, g⟩
    rw [ew]
    exact hr
theorem drawTouched_ev (c : List Int) (h : ∀ x ∈ c, 0 ≤ x ∧ x ≤ 255) : ∃ l r, Ev (fun k => spec_DrawTouchedBy.f k c) (l, r) ∧ SmallCovers l ∧ r.length ≤ 10 := by
  obtain ⟨b, hb, hc⟩ := newReader_ev c h
  obtain ⟨v, hv, v0, v1⟩ := pick_ev hc 0 4 (by omega) (by omega) (by omega)
  have v1 := v1 (by omega)
  obtain ⟨n, rfl⟩ := Int.eq_ofNat_of_zero_le v0
  obtain ⟨R, r, hr, hs, g⟩ := drawTouched_l0 hc n [] (0 + 1) (by simp; omega) (by omega) (by omega)
  refine ⟨R, r, ?_, hs, g⟩
  unfold spec_DrawTouchedBy.f
  exact Ev.bind0 hb (Ev.bind hv hr)
theorem touchV_small {L : List S53} (h : SmallCovers L) (l : List Int) : (touchV L l).length ≤ 1000 := Nat.le_trans (touchV_len L l) h.len
theorem touched_l0 (L : List S53) (l : List Int) (out : List ByteArray) (hs : SmallCovers L) (hl : l.length ≤ 10) (hg : coversS L = true)
    (hfin : ∀ (acc : List ByteArray) (i : Int), ¬ i < (l.length : Int) → acc.length ≤ 100000 → (∀ x, x ∈ acc ↔ x ∈ touchV L l) → Ev (fun k => laws_FnTouchedBy.l0 k L l out acc i) true) : ∀ (d i : Nat) (acc : List ByteArray), i + d = l.length → acc.length ≤ 1000 * i → (∀ x, x ∈ acc ↔ x ∈ touchV L (l.take i)) → Ev (fun k => laws_FnTouchedBy.l0 k L l out acc (i : Int)) true := by
  intro d
  induction d with
  | zero =>
    intro i acc hd ha hm
    rw [List.take_of_length_le (by omega)] at hm
    exact hfin acc _ (by omega) (by omega) hm
  | succ d ih =>
    intro i acc hd ha hm
    have hi : i < l.length := by omega
    have ew : wrap64 ((i : Int) + 1) = ((i + 1 : Nat) : Int) := wrapN (by omega)
    have ht := implTouch_ev L ((l.take (i + 1)).drop i) hs.sizes (by rw [List.length_drop, List.length_take]; omega)
    have e : touchS L ((l.take (i + 1)).drop i) = touchV L ((l.take (i + 1)).drop i) := if_pos hg
    rw [e] at ht
    have hlen := touchV_small hs ((l.take (i + 1)).drop i)
    refine Ev.step (fun k => rfl) (Ev.iteT (by omega) (Ev.iteT (by omega) ?_))
    rw [ew]
    refine Ev.iteT (by omega) (Ev.iteT (by omega) ?_)
    rw [Int.toNat_natCast, Int.toNat_natCast]
    refine Ev.bind ht (Ev.iteT (by omega) (ih (i + 1) _ (by omega) (by rw [List.length_append]; omega) (fun x => ?_)))
    rw [List.mem_append, hm x]
    simp only [touchV_mem]
    have es : l.take (i + 1) = l.take i ++ (l.take (i + 1)).drop i := by
      have h1 := List.take_append_drop i (l.take (i + 1))
      rw [List.take_take, Nat.min_eq_left (by omega)] at h1
      exact h1.symm
    have em : ∀ n, n ∈ l.take (i + 1) ↔ n ∈ l.take i ∨ n ∈ (l.take (i + 1)).drop i := fun n => by
      conv => lhs; rw [es]
      exact List.mem_append
    constructor
    · rintro (⟨c, hc, e1, n, hn, hn2⟩ | ⟨c, hc, e1, n, hn, hn2⟩)
      · exact ⟨c, hc, e1, n, hn, (em n).2 (.inl hn2)⟩
      · exact ⟨c, hc, e1, n, hn, (em n).2 (.inr hn2)⟩
    · rintro ⟨c, hc, e1, n, hn, hn2⟩
      rcases (em n).1 hn2 with h | h
      · exact .inl ⟨c, hc, e1, n, hn, h⟩
      · exact .inr ⟨c, hc, e1, n, hn, h⟩

theorem FnTouchedBy : laws_FnTouchedBy.Pure := by
  intro l0 h1 h2 h3
  have hw : ∀ x ∈ l0, 0 ≤ x ∧ x ≤ 255 := fun x hx => wfByte (h3 x hx)
  refine Ev.rounds ?_
  unfold laws_FnTouchedBy.f
  by_cases c1 : (l0.length : Int) > 1048576
  · exact Ev.iteT c1 (Ev.some_ rfl)
  · refine Ev.iteF c1 ?_
    obtain ⟨L, l, hd, hs, hl⟩ := drawTouched_ev l0 hw
    have hi := implTouch_ev L l hs.sizes (by omega)
    have hp := specTouch_ev L l hs.sizes (by omega)
    have hv := implCovers_ev L hs.sizes
    have hlen : (touchS L l).length ≤ 1000 := by
      unfold touchS
      split
      · exact touchV_small hs l
      · exact Nat.zero_le _
    have he := equalTexts_ev (touchS L l) (by omega)
    refine Ev.bind hd (Ev.bind hi (Ev.bind hp (Ev.bind he (Ev.iteT rfl (Ev.bind hv (Ev.step (fun k => rfl) ?_))))))
    by_cases c2 : (!coversS L) = true
    · exact Ev.iteT c2 (Ev.bind hp (Ev.bind he (Ev.some_ rfl)))
    · refine Ev.iteF c2 ?_
      have hg : coversS L = true := by simpa using c2
      have hts : touchS L l = touchV L l := if_pos hg
      rw [hts] at hlen ⊢
      refine touched_l0 L l (touchV L l) hs hl hg (fun acc i hi ha hm => ?_) l.length 0 [] (by omega) (Nat.zero_le _) (fun x => by simp [touchV, hasI])
      exact Ev.step (fun k => rfl) (Ev.iteF hi (Ev.bind (within2_ev acc (touchV L l) (by omega) (by omega) fun x hx => (hm x).1 hx) (Ev.iteT rfl (Ev.bind (within2_ev (touchV L l) acc (by omega) (by omega) fun x hx => (hm x).2 hx) (Ev.iteT rfl (Ev.bind (lawApart_ev (touchV L l) (by omega) (touchV_nodup hg l)) (Ev.some_ rfl)))))))

end Go.Proofs.Ytlnaejkbanpcjaa.Pure
