/- The law FnAndExpr answers true for every code: both must hold. Its one condition: the code is data that fits into memory. -/
import Derived.Test.YtdllommmccgleaaAx9
import Derived.Test.YtdllommmccgleaaLFnAndExpr
namespace Go.Proofs.Ytdllommmccgleaa.Pure
open Go.RowKit Go.Proofs.Ytdllommmccgleaa.A Go.Proofs.YtdllommmccgleaaW.PrintWords Go.Proofs.YtdllommmccgleaaW.PrintLast

theorem FnAndExpr : laws_FnAndExpr.Pure := by
 intro l hlen hlen2 hok
 refine Ev.rounds ?_
 obtain ⟨ta, tb, ht, hsa, hsb⟩ := drawAnd_ev l (fun x hx => wfByte (hok x hx))
 obtain ⟨a, rfl⟩ : ∃ s, ta = BA s := ⟨_, (BA_of ta).symm⟩
 obtain ⟨b, rfl⟩ : ∃ s, tb = BA s := ⟨_, (BA_of tb).symm⟩
 have hza : (BA a).size = a.length := rfl
 have hzb : (BA b).size = b.length := rfl
 unfold laws_FnAndExpr.f
 by_cases c1 : (l.length : Int) > 1048576
 ·exact Ev.iteT c1 (Ev.some_ rfl)
 ·obtain ⟨r, hr1, hr2, hr⟩ := andExpr_ev a b (by omega) (by omega)
  refine Ev.iteF c1 (Ev.bind ht (Ev.bind hr1 (Ev.bind hr2 (Ev.iteT rfl ?_))))
  rcases hr with ⟨⟨h1, ea, h2⟩, ⟨h3, eb, h4⟩, ⟨h5, _⟩, rfl⟩ | ⟨_, rfl⟩
  ·have h6 : Parses (andT a b) (.and ea eb) := parses_and h2 h4
   refine Ev.iteF BA_ne (Ev.bind (implAtoms_yes h6 h5) ?_)
   refine Ev.step (fun k => by rw [laws_FnAndExpr.j0]) ?_
   by_cases c2 : (((Ex.and ea eb).at_ []).length : Int) > 6
   ·exact Ev.iteT (decide_eq_true c2) (Ev.bind hr2 (Ev.some_ (by simp)))
   ·refine Ev.iteF (by simpa using c2) ?_
    have hsz := andT_length a b
    have hsz2 := andT_length b a
    obtain ⟨v, hv1, _, hv⟩ := andExpr_ev b a (by omega) (by omega)
    have h7 : Parses (andT b a) (.and eb ea) := parses_and h4 h2
    have hv2 : v = BA (andT b a) := by
     rcases hv with ⟨_, _, _, e⟩ | ⟨n, _⟩
     ·exact e
     ·exact absurd ⟨⟨h3, eb, h4⟩, ⟨h1, ea, h2⟩, ⟨by omega, _, h7⟩⟩ n
    subst hv2
    obtain ⟨na, hna1, hna⟩ := notExprI_ev a (by omega)
    obtain ⟨nb, hnb1, hnb⟩ := notExprI_ev b (by omega)
    obtain ⟨x, hx⟩ : ∃ x, na = BA x ∧ x.length ≤ 500 ∧ (ExprOk x → Parses x (.not ea)) := by
     rcases hna with ⟨_, _, e⟩ | ⟨_, e⟩
     ·exact ⟨_, e, by rw [notT_length]; omega, fun _ => parses_not h2⟩
     ·exact ⟨_, e, by simp, fun h => absurd h exprOk_nil⟩
    obtain ⟨rfl, hxl, hxp⟩ := hx
    obtain ⟨y, hy⟩ : ∃ y, nb = BA y ∧ y.length ≤ 500 ∧ (ExprOk y → Parses y (.not eb)) := by
     rcases hnb with ⟨_, _, e⟩ | ⟨_, e⟩
     ·exact ⟨_, e, by rw [notT_length]; omega, fun _ => parses_not h4⟩
     ·exact ⟨_, e, by simp, fun h => absurd h exprOk_nil⟩
    obtain ⟨rfl, hyl, hyp⟩ := hy
    obtain ⟨ei, hei1, hei⟩ := orExprI_ev x y (by omega) (by omega)
    obtain ⟨no, hno1, hno⟩ := notExprI_ev (andT a b) (by omega)
    have hws : ∀ x ∈ (Ex.and eb ea).ws, x ∈ (Ex.and ea eb).at_ [] := by
     intro x hx
     refine ws_in _ _ x ?_
     rcases List.mem_append.1 hx with hx | hx
     ·exact List.mem_append_right _ hx
     ·exact List.mem_append_left _ hx
    have hsame := implSame_yes h6 h7 h5 (by omega)
    rw [same_true (ea := .and ea eb) (eb := .and eb ea) (fun m l => Bool.and_comm _ _) (by rw [at_old (.and eb ea) _ hws]; omega)] at hsame
    refine Ev.bind hv1 (Ev.bind hna1 (Ev.bind hnb1 (Ev.bind hei1 (Ev.bind hno1 (Ev.bind hsame (Ev.iteT rfl ?_))))))
    rcases hei with ⟨hxo, hyo, ⟨h8, _⟩, rfl⟩ | ⟨_, rfl⟩
    ·refine Ev.iteF BA_ne ?_
     rcases hno with ⟨_, ⟨h9, _⟩, rfl⟩ | ⟨_, rfl⟩
     ·refine Ev.iteF BA_ne ?_
      have p1 : Parses (notT (andT a b)) (.not (.and ea eb)) := parses_not h6
      have p2 : Parses (orT x y) (.or (.not ea) (.not eb)) := parses_or (hxp hxo) (hyp hyo)
      have hs2 := implSame_yes p1 p2 h9 h8
      rw [same_true (ea := .not (.and ea eb)) (eb := .or (.not ea) (.not eb)) (fun m l => by show (!(ea.ev m l && eb.ev m l)) = (!(ea.ev m l) || !(eb.ev m l)); rw [Bool.not_and]) (by
       have : (Ex.or (.not ea) (.not eb)).at_ ((Ex.not (.and ea eb)).at_ []) = (Ex.and ea eb).at_ [] := at_old _ _ (ws_in (.and ea eb) [])
       rw [this]
       omega)] at hs2
      exact Ev.bind hs2 (Ev.some_ rfl)
     ·exact Ev.iteT (toList_BA []) (Ev.some_ rfl)
    ·exact Ev.iteT (toList_BA []) (Ev.some_ rfl)
  ·refine Ev.iteT (toList_BA []) ?_
   refine Ev.step (fun k => by rw [laws_FnAndExpr.j0]) ?_
   exact Ev.iteT rfl (Ev.bind hr2 (Ev.some_ (by simp)))

end Go.Proofs.Ytdllommmccgleaa.Pure
