/- The law FnModulesOf answers true for every code: modules are of tests. Its one condition: the code is data that fits into memory. -/
import Derived.Test.YtdllommmccgleaaEx0
import Derived.Test.YtdllommmccgleaaEx30
import Derived.Test.YtdllommmccgleaaEx34
import Derived.Test.YtdllommmccgleaaLFnModulesOf
namespace Go.Proofs.Ytdllommmccgleaa.Pure
open Go.RowKit Go.Proofs.Ytdllommmccgleaa.E Go.Proofs.YtdllommmccgleaaW.PrintWords Go.Proofs.YtdllommmccgleaaW.PrintLast

theorem drawMods_ev (c : List Int) (h : ∀ x ∈ c, 0 ≤ x ∧ x ≤ 255) : ∃ l, Ev (fun k => spec_DrawModulesOf.f k c) l ∧ SmTS l := by
 obtain ⟨b, hb, hb2⟩ := newReader_ev c h
 obtain ⟨l, q, hl, hs, q0, q1⟩ := someTests_ev hb2 0 (by omega) (by omega)
 unfold spec_DrawModulesOf.f
 exact ⟨l, Ev.bind0 hb (Ev.bind hl (Ev.some_ rfl)), hs⟩
theorem all_takeW : ∀ (m : List UInt8), m.all lowB = true → m.takeWhile lowB = m ∧ m.dropWhile lowB = []
 | [], _ => ⟨rfl, rfl⟩
 | c :: m, h => by
  rw [List.all_cons, Bool.and_eq_true] at h
  obtain ⟨h1, h2⟩ := all_takeW m h.2
  rw [List.takeWhile_cons, List.dropWhile_cons, if_pos h.1, if_pos h.1, h1, h2]
  exact ⟨rfl, rfl⟩
theorem parses_mod {m : List UInt8} (h : nameL m = true) : Parses (64 :: m) (.leaf (64 :: m)) := by
 have ha : m.all lowB = true := by
  unfold nameL nameS at h
  rw [Bool.and_eq_true] at h
  exact h.1
 obtain ⟨h1, h2⟩ := all_takeW m ha
 refine parses_fac ?_
 rw [show facL ((64 :: m).length + 1) (64 :: m) = wordL m true from rfl]
 unfold wordL
 rw [h1, h2, if_pos h, if_pos rfl]
theorem chosen_loop (m : List UInt8) (hm : nameL m = true) (l : List S28) (hl : TSzS l) (hn : l.length ≤ 10) : ∀ (t : List S28) (i : Nat) (acc : List S28), l.drop i = t → i ≤ l.length → acc.length ≤ i → (∀ q ∈ acc, q ∈ l) →
  Ev (fun k => impl_chosen.l0 k true acc l (l.length : Int) (i : Int) (encE (.leaf (64 :: m))).f0 (encE (.leaf (64 :: m))).f1) (acc ++ t.filter fun q => decide (BA m = q.f0)) := by
 intro t
 induction t with
 | nil =>
  intro i acc h hi ha hq
  have hl2 := drop_nil h
  refine Ev.step (fun k => by rw [impl_chosen.l0]) ?_
  rw [List.filter_nil, List.append_nil]
  refine Ev.iteF (by omega) (Ev.bind (copyTests_ev acc (by omega) (fun q hx => ?_)) (Ev.some_ rfl))
  have := hl.one q (hq q hx)
  have h2 := this.r2.1
  have h3 := this.r3.1
  exact ⟨by omega, by omega⟩
 | cons b t ih =>
  intro i acc h hi ha hq
  obtain ⟨hl2, hb, ht⟩ := drop_cons h
  have hbm : b ∈ l := hb ▸ List.getElem_mem hl2
  have hz := hl.one b hbm
  have hz2 := hz.r2.1
  refine Ev.step (fun k => by rw [impl_chosen.l0]) ?_
  refine Ev.iteT (by omega) (Ev.iteT (by omega) (Ev.iteT (by omega) ?_))
  rw [rdT_nat _ _ hl2, hb, wrapN (by omega)]
  refine Ev.bind (holds_ev b.f0 b.f2 (by omega) (.leaf (64 :: m)) (.inr ⟨m, rfl, hm⟩)) ?_
  rw [show (Ex.leaf (64 :: m)).ev b.f0 b.f2 = decide (BA m = b.f0) from wordE_at _ _ _]
  by_cases hc : BA m = b.f0
  ·rw [decide_eq_true hc, List.filter_cons_of_pos (by simpa using hc)]
   refine Ev.iteT rfl (Ev.iteT (by omega) ?_)
   have := ih (i + 1) (acc ++ [b]) ht (by omega) (by rw [List.length_append, List.length_singleton]; omega) (fun q hx => (List.mem_append.1 hx).elim (hq q) (fun e => (List.mem_singleton.1 e) ▸ hbm))
   rw [List.append_assoc] at this
   exact this
  ·rw [decide_eq_false hc, List.filter_cons_of_neg (by simpa using hc)]
   exact Ev.iteF (by decide) (ih (i + 1) acc ht (by omega) (by omega) hq)
theorem select_ev (m : List UInt8) (hm : nameL m = true) (l : List S28) (hl : TSzS l) (hv : testsS l = true) (hn : l.length ≤ 10) : Ev (fun k => impl_SelectTests.f k l ((⟨#[64]⟩ : ByteArray) ++ BA m)) (l.filter fun q => decide (BA m = q.f0)) := by
 have h1 := nameL_pos hm
 have ht := validTestsI_ev l hl
 rw [hv] at ht
 rw [show (⟨#[64]⟩ : ByteArray) ++ BA m = BA (64 :: m) from BA_append [64] m]
 unfold impl_SelectTests.f impl_chosen.f
 refine Ev.bind (Ev.bind (readExpr_yes (parses_mod hm) (by rw [List.length_cons]; omega)) (Ev.iteT rfl (Ev.bind ht ?_))) (Ev.some_ rfl)
 refine Ev.step (fun k => by rw [impl_chosen.j0]) ?_
 exact Ev.iteF (by decide) (chosen_loop m hm l hl hn l 0 [] rfl (Nat.zero_le _) (by simp) (fun q hx => by cases hx))
theorem modsF_mem : ∀ (l : List S28) (o : List ByteArray) (x : ByteArray), x ∈ modsF o l ↔ x ∈ o ∨ ∃ q ∈ l, q.f0 = x
 | [], o, x => by simp [modsF]
 | q :: t, o, x => by
  unfold modsF
  rw [modsF_mem t, addM_mem]
  simp only [List.mem_cons, exists_eq_or_imp, or_assoc]
  rw [eq_comm (a := x)]
theorem modsF_nodup : ∀ (l : List S28) (o : List ByteArray), o.Nodup → (modsF o l).Nodup
 | [], o, h => h
 | q :: t, o, h => by
  unfold modsF
  refine modsF_nodup t _ ?_
  unfold addM
  split
  ·exact h
  ·next hm =>
   rw [List.nodup_append]
   refine ⟨h, by simp, fun a ha b hb e => ?_⟩
   rw [List.mem_singleton] at hb
   exact hm (memB_iff.2 (by rw [← hb, ← e]; exact ha))
/-- How many tests are of one of the modules. -/
def ofMods (l : List S28) : List ByteArray → Nat
 | [] => 0
 | m :: t => (l.filter fun q => decide (m = q.f0)).length + ofMods l t
theorem ofMods_not (q : S28) (l : List S28) : ∀ (M : List ByteArray), q.f0 ∉ M → ofMods (q :: l) M = ofMods l M
 | [], _ => rfl
 | m :: t, h => by
  unfold ofMods
  rw [List.filter_cons_of_neg (by simp only [decide_eq_true_eq]; exact fun e => h (by rw [e]; exact List.mem_cons_self)), ofMods_not q l t (fun e => h (List.mem_cons_of_mem _ e))]
theorem ofMods_one (q : S28) (l : List S28) : ∀ (M : List ByteArray), M.Nodup → q.f0 ∈ M → ofMods (q :: l) M = ofMods l M + 1
 | [], _, h => by cases h
 | m :: t, hn, h => by
  rw [List.nodup_cons] at hn
  unfold ofMods
  by_cases e : m = q.f0
  ·rw [List.filter_cons_of_pos (by simpa using e), List.length_cons, ofMods_not q l t (by rw [← e]; exact hn.1)]
   omega
  ·have h2 : q.f0 ∈ t := (List.mem_cons.1 h).elim (fun z => absurd z.symm e) id
   rw [List.filter_cons_of_neg (by simpa using e), ofMods_one q l t hn.2 h2]
   omega
theorem ofMods_all (M : List ByteArray) (hn : M.Nodup) : ∀ (l : List S28), (∀ q ∈ l, q.f0 ∈ M) → ofMods l M = l.length
 | [], _ => by
  have : ∀ M : List ByteArray, ofMods [] M = 0 := by
   intro M
   induction M with
   | nil => rfl
   | cons m t ih => unfold ofMods; rw [ih]; rfl
  exact this M
 | q :: t, h => by
  rw [ofMods_one q t M hn (h q List.mem_cons_self), ofMods_all M hn t (fun x hx => h x (List.mem_cons_of_mem _ hx)), List.length_cons]
theorem law_loop (l : List S28) (hl : TSzS l) (hv : testsS l = true) (hn : l.length ≤ 10) (M : List ByteArray) (hM : ∀ x ∈ M, ∃ m, x = BA m ∧ nameL m = true) (hnd : M.Nodup) (hlm : M.length ≤ 10) : ∀ (t : List ByteArray) (i n : Nat), M.drop i = t → i ≤ M.length → n + ofMods l t = l.length →
  Ev (fun k => laws_FnModulesOf.l0 k l M (n : Int) (i : Int)) true := by
 intro t
 induction t with
 | nil =>
  intro i n h hi he
  have hl2 := drop_nil h
  have he2 : n = l.length := he
  refine Ev.step (fun k => by rw [laws_FnModulesOf.l0]) ?_
  exact Ev.iteF (by omega) (Ev.bind (lawApart_ev M (by omega) hnd) (Ev.iteT rfl (Ev.some_ (by rw [he2]; simp))))
 | cons b t ih =>
  intro i n h hi he
  obtain ⟨hl2, hb, ht⟩ := drop_cons h
  obtain ⟨m, rfl, hm⟩ := hM b (hb ▸ List.getElem_mem hl2)
  have h1 := nameL_pos hm
  have hz : (BA m).size = m.length := rfl
  have hf : (l.filter fun q => decide (BA m = q.f0)).length ≤ l.length := List.length_filter_le ..
  have he2 : n + ((l.filter fun q => decide (BA m = q.f0)).length + ofMods l t) = l.length := he
  refine Ev.step (fun k => by rw [laws_FnModulesOf.l0]) ?_
  rw [rdOf_nat _ _ _ hl2, hb, wrapN (by omega)]
  refine Ev.iteT (by omega) (Ev.iteT (by omega) (Ev.iteT (by omega) (Ev.bind (select_ev m hm l hl hv hn) ?_)))
  rw [show wrap64 ((n : Int) + (((l.filter fun q => decide (BA m = q.f0)).length : Nat) : Int)) = ((n + (l.filter fun q => decide (BA m = q.f0)).length : Nat) : Int) by rw [wrapI (by omega)]; omega]
  exact ih (i + 1) _ ht (by omega) (by omega)
theorem FnModulesOf : laws_FnModulesOf.Pure := by
 intro c hlen hlen2 hok
 refine Ev.rounds ?_
 obtain ⟨l, hl, hs⟩ := drawMods_ev c (fun x hx => wfByte (hok x hx))
 have hz := hs.sizes
 have hll := hs.len
 unfold laws_FnModulesOf.f
 by_cases c1 : (c.length : Int) > 1048576
 ·exact Ev.iteT c1 (Ev.some_ rfl)
 ·have hml := modsV_length l
  have heq := equalTexts_ev (modsV l) (by omega)
  have hi := implModules_ev l hz
  have hp := specModules_ev l hz
  have hv := validTestsI_ev l hz
  refine Ev.iteF c1 (Ev.bind hl (Ev.bind hi (Ev.bind hp (Ev.bind heq (Ev.iteT rfl (Ev.bind hv ?_))))))
  refine Ev.step (fun k => by rw [laws_FnModulesOf.j0]) ?_
  cases ct : testsS l with
  | false => exact Ev.iteT rfl (Ev.bind hp (Ev.bind heq (Ev.some_ rfl)))
  | true =>
   have ct' := ct
   unfold testsS at ct'
   simp only [Bool.and_eq_true, decide_eq_true_eq, List.all_eq_true] at ct'
   have hm : modsV l = modsF [] l := if_pos ct
   refine Ev.iteF (by decide) ?_
   rw [hm] at hml ⊢
   have hnd := modsF_nodup l [] List.nodup_nil
   refine law_loop l hz ct (by omega) _ ?_ hnd (by omega) _ 0 0 rfl (Nat.zero_le _) ?_
   ·intro x hx
    rcases (modsF_mem l [] x).1 hx with h | ⟨q, hq, rfl⟩
    ·cases h
    ·have ht := ct'.1 q hq
     unfold testS at ht
     rw [Bool.and_eq_true] at ht
     exact ⟨_, (BA_of q.f0).symm, by unfold nameL; rw [BA_of]; exact ht.1⟩
   ·rw [List.drop_zero, Nat.zero_add]
    exact ofMods_all _ hnd l (fun q hq => (modsF_mem l [] _).2 (.inr ⟨q, hq, rfl⟩))

end Go.Proofs.Ytdllommmccgleaa.Pure
