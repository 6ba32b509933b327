/- The law FnAtomsOf answers true for every code: atoms are expressions. Its one condition: the code is data that fits into memory. -/
import Derived.Test.YtdllommmccgleaaEx0
import Derived.Test.YtdllommmccgleaaEx16
import Derived.Test.YtdllommmccgleaaEx26
import Derived.Test.YtdllommmccgleaaEx27
import Derived.Test.YtdllommmccgleaaLFnAtomsOf
namespace Go.Proofs.Ytdllommmccgleaa.Pure
open Go.RowKit Go.Proofs.Ytdllommmccgleaa.E Go.Proofs.YtdllommmccgleaaW.PrintWords Go.Proofs.YtdllommmccgleaaW.PrintLast

theorem drawAtoms_ev (c : List Int) (h : ∀ x ∈ c, 0 ≤ x ∧ x ≤ 255) : ∃ s, Ev (fun k => spec_DrawAtomsOf.f k c) s ∧ s.size ≤ 400 := by
 obtain ⟨b, hb, hc⟩ := newReader_ev c h
 obtain ⟨t, q, ht, hs, _, _⟩ := someExpr_ev hc 0 (by omega) (by omega)
 unfold spec_DrawAtomsOf.f
 exact ⟨t, Ev.bind0 hb (Ev.bind ht (Ev.some_ rfl)), by omega⟩
theorem all_takeW : ∀ (m : List UInt8), m.all lowB = true → m.takeWhile lowB = m ∧ m.dropWhile lowB = []
 | [], _ => ⟨rfl, rfl⟩
 | c :: m, h => by
  rw [List.all_cons, Bool.and_eq_true] at h
  obtain ⟨h1, h2⟩ := all_takeW m h.2
  rw [List.takeWhile_cons, List.dropWhile_cons, if_pos h.1, if_pos h.1, h1, h2]
  exact ⟨rfl, rfl⟩
theorem name_all {m : List UInt8} (h : nameL m = true) : m.all lowB = true := by
 unfold nameL nameS at h
 rw [Bool.and_eq_true] at h
 exact h.1
theorem cut_low {p m : List UInt8} (hm : m.all lowB = true) {c : UInt8} (hc : c ∈ p) (hn : lowB c = false) : cutL p m = none := by
 cases h : cutL p m with
 | none => rfl
 | some r =>
  rw [cutL_some h, List.all_append, Bool.and_eq_true, List.all_eq_true] at hm
  rw [hm.1 c hc] at hn
  cases hn
theorem parses_word {w : List UInt8} (h : wordOk w) : Parses w (.leaf w) := by
 refine parses_fac ?_
 rcases h with h | ⟨m, rfl, h⟩
 ·obtain ⟨h1, h2⟩ := all_takeW w (name_all h)
  unfold facL
  rw [cut_low (name_all h) (c := 32) (by decide) (by decide), cut_low (name_all h) (c := 40) (by decide) (by decide), cut_low (name_all h) (c := 64) (by decide) (by decide)]
  simp only
  unfold wordL
  rw [h1, h2, if_pos h]
  rfl
 ·obtain ⟨h1, h2⟩ := all_takeW m (name_all h)
  rw [show facL ((64 :: m).length + 1) (64 :: m) = wordL m true from rfl]
  unfold wordL
  rw [h1, h2, if_pos h, if_pos rfl]
theorem word_short {w : List UInt8} (h : wordOk w) : w.length ≤ 60 := by
 rcases h with h | ⟨m, rfl, h⟩
 ·have := nameL_pos h; omega
 ·have := nameL_pos h
  rw [List.length_cons]
  omega
theorem ev_marks {m : ByteArray} {l l' : List ByteArray} : ∀ (e : Ex), (∀ x ∈ e.ws, memB l x = memB l' x) → e.ev m l = e.ev m l'
 | .leaf w, h => by
  show wordE m l w = wordE m l' w
  unfold wordE
  rw [h _ (List.mem_singleton.2 rfl)]
 | .not a, h => by
  show (!(a.ev m l)) = !(a.ev m l')
  rw [ev_marks a h]
 | .and a b, h => by
  show (a.ev m l && b.ev m l) = (a.ev m l' && b.ev m l')
  rw [ev_marks a (fun x hx => h x (List.mem_append_left _ hx)), ev_marks b (fun x hx => h x (List.mem_append_right _ hx))]
 | .or a b, h => by
  show (a.ev m l || b.ev m l) = (a.ev m l' || b.ev m l')
  rw [ev_marks a (fun x hx => h x (List.mem_append_left _ hx)), ev_marks b (fun x hx => h x (List.mem_append_right _ hx))]
theorem nameS_zz : nameS (BA [122, 122]) = true := by unfold nameS nameEnd; rw [toList_BA]; decide
theorem nameS_a : nameS (BA [97]) = true := by unfold nameS nameEnd; rw [toList_BA]; decide
theorem nameS_zzz : nameS (BA [122, 122, 122]) = true := by unfold nameS nameEnd; rw [toList_BA]; decide
theorem matches_ev {s : List UInt8} {e : Ex} (h : Parses s e) (hs : s.length ≤ 60) (l : List ByteArray) (hl : l = [] ∨ l = [BA [122, 122, 122]]) : Ev (fun k => impl_Matches.f k (BA s) (BA [122, 122]) (BA [97]) l []) (e.ev (BA [122, 122]) l) := by
 have hll : l.length ≤ 1 := by rcases hl with rfl | rfl <;> simp
 have hsz : ∀ x ∈ l, x.size ≤ 3 := by
  intro x hx
  rcases hl with rfl | rfl
  ·cases hx
  ·rw [List.mem_singleton.1 hx]; decide
 have ht := testOk_ev (⟨BA [122, 122], BA [97], l, []⟩ : S28) ⟨by show (2 : Nat) ≤ _; omega, by show (1 : Nat) ≤ _; omega, ⟨by show l.length ≤ _; omega, fun x hx => by have := hsz x hx; omega⟩, ⟨by show (0 : Nat) ≤ _; omega, fun x hx => by cases hx⟩⟩
 have hv : testS (⟨BA [122, 122], BA [97], l, []⟩ : S28) = true := by
  unfold testS
  show (nameS (BA [122, 122]) && (nameS (BA [97]) && (namesS l 3 && (ascS l && namesS [] 4)))) = true
  rw [nameS_zz, nameS_a]
  unfold namesS
  rcases hl with rfl | rfl
  ·rfl
  ·rw [List.all_cons, nameS_zzz]
   simp [ascS]
 rw [hv] at ht
 unfold impl_Matches.f
 exact Ev.bind (readExpr_yes h hs) (Ev.iteT rfl (Ev.bind ht (Ev.iteT rfl (Ev.bind (holds_ev _ l (by omega) e h.wf) (Ev.some_ rfl)))))
theorem law_loop {s : List UInt8} {e : Ex} (h : Parses s e) (hs : s.length ≤ 60) : ∀ (t : List ByteArray) (i : Nat), (e.at_ []).drop i = t → i ≤ (e.at_ []).length → Ev (fun k => laws_FnAtomsOf.l0 k (BA s) (e.at_ []) (i : Int)) true := by
 have hc := h.cnt
 have ha := at_length e []
 have h0 : ([] : List ByteArray).length = 0 := rfl
 have hw := at_words e [] h.wf (fun x hx => by cases hx)
 intro t
 induction t with
 | nil =>
  intro i hd hi
  have hl := drop_nil hd
  refine Ev.step (fun k => by rw [laws_FnAtomsOf.l0]) ?_
  refine Ev.iteF (by omega) (Ev.bind (lawApart_ev _ (by omega) (at_nodup e [] List.nodup_nil)) (Ev.iteT rfl (Ev.bind (lawHasText_ev _ _ (by omega)) ?_)))
  cases hz : memB (e.at_ []) (BA [122, 122, 122]) with
  | true => exact Ev.iteT hz (Ev.some_ rfl)
  | false =>
   refine Ev.iteF (by rw [show (⟨#[122, 122, 122]⟩ : ByteArray) = BA [122, 122, 122] from rfl, hz]; decide) (Ev.bind (matches_ev h hs [] (.inl rfl)) (Ev.bind (matches_ev h hs _ (.inr rfl)) (Ev.some_ ?_)))
   rw [beq_iff_eq]
   refine ev_marks e (fun x hx => ?_)
   have hm := memB_not.1 hz
   have hx2 := ws_in e [] x hx
   rw [show memB [] x = false from rfl]
   symm
   rw [memB_not, List.mem_singleton]
   exact fun ee => hm (by rw [show BA [122, 122, 122] = x from ee.symm]; exact hx2)
 | cons b t ih =>
  intro i hd hi
  obtain ⟨hl, hb, ht⟩ := drop_cons hd
  obtain ⟨w, hbw, hok⟩ := hw b (hb ▸ List.getElem_mem hl)
  have hp := parses_word hok
  have h6 := word_short hok
  refine Ev.step (fun k => by rw [laws_FnAtomsOf.l0]) ?_
  rw [rdOf_nat _ _ _ hl, hb, wrapN (by omega), hbw]
  refine Ev.iteT (by omega) (Ev.iteT (by omega) (Ev.bind (implValid_yes hp h6) (Ev.iteT rfl (Ev.bind (implAtoms_yes hp h6) (Ev.iteT (by omega) (Ev.iteT (by omega) ?_))))))
  have e1 : ((e.at_ []).take (((i + 1 : Nat) : Int)).toNat).drop ((i : Nat) : Int).toNat = [BA w] := by
   rw [Int.toNat_natCast, Int.toNat_natCast, List.take_succ_eq_append_getElem hl, hb, hbw, List.drop_left' (by rw [List.length_take]; omega)]
  rw [e1]
  exact Ev.bind (equalTexts_ev [BA w] (by simp)) (Ev.iteT rfl (ih (i + 1) ht (by omega)))
theorem FnAtomsOf : laws_FnAtomsOf.Pure := by
 intro l hlen hlen2 hok
 refine Ev.rounds ?_
 obtain ⟨t, ht, hs⟩ := drawAtoms_ev l (fun x hx => wfByte (hok x hx))
 obtain ⟨s, rfl⟩ : ∃ s, t = BA s := ⟨_, (BA_of t).symm⟩
 unfold laws_FnAtomsOf.f
 by_cases c1 : (l.length : Int) > 1048576
 ·exact Ev.iteT c1 (Ev.some_ rfl)
 ·refine Ev.iteF c1 (Ev.bind ht ?_)
  by_cases h : ExprOk s
  ·obtain ⟨h1, e, h2⟩ := h
   have hi := implAtoms_yes h2 h1
   have hp := specAtoms_yes h2 h1
   have hc := h2.cnt
   have ha := at_length e []
   have h0 : ([] : List ByteArray).length = 0 := rfl
   have heq := equalTexts_ev (e.at_ []) (by omega)
   refine Ev.bind hi (Ev.bind hp (Ev.bind heq (Ev.iteT rfl ?_)))
   refine Ev.step (fun k => by rw [laws_FnAtomsOf.j0]) ?_
   by_cases hz : (((e.at_ []).length : Int) == 0) = true
   ·exact Ev.iteT hz (Ev.bind hp (Ev.bind heq (Ev.some_ rfl)))
   ·exact Ev.iteF hz (law_loop h2 h1 _ 0 rfl (Nat.zero_le _))
  ·have hi := implAtoms_no h
   have hp := specAtoms_no h
   have heq := equalTexts_ev [] (by simp)
   refine Ev.bind hi (Ev.bind hp (Ev.bind heq (Ev.iteT rfl ?_)))
   refine Ev.step (fun k => by rw [laws_FnAtomsOf.j0]) ?_
   exact Ev.iteT rfl (Ev.bind hp (Ev.bind heq (Ev.some_ rfl)))

end Go.Proofs.Ytdllommmccgleaa.Pure
