/- The law FnParseReport answers true for every code: ParseReport is what the reference says, and what is read is written back. Its one condition: the code is a slice of bytes that fits into memory. -/
import Derived.Test.YtieghkchhjailaaPx32
import Derived.Test.YtieghkchhjailaaLFnParseReport
namespace Go.Proofs.Ytieghkchhjailaa.Pure
open Go.RowKit Go.Proofs.Ytieghkchhjailaa.P Go.Proofs.YtieghkchhjailaaW.PrintWords Go.Proofs.YtieghkchhjailaaW.PrintLast

theorem FnParseReport : laws_FnParseReport.Pure := by
  intro l0 hl hl2 hw
  refine Ev.rounds ?_
  unfold laws_FnParseReport.f
  by_cases c : (l0.length : Int) > 1048576
  · exact Ev.iteT c (Ev.some_ rfl)
  · refine Ev.iteF c ?_
    have hdraw : ∃ t, Ev (fun k => spec_DrawParseReport.f k l0) t ∧ t.size ≤ 1000100 := by
      obtain ⟨b, hb, hc⟩ := newReader_ev l0 (fun x hx => wfByte (hw x hx))
      obtain ⟨rs, ds, p', he, hr, hd, q0, q1⟩ := someReport_ev hc 0 (by omega) (by omega)
      have hlr := hr.len
      have hld := hd.len
      have hsz : RepSizes rs ds := ⟨by omega, fun e he => by have := hr.ids e he; omega, by omega, fun e he => by have := hd.ids e he; omega⟩
      have hs := specRep_ev rs ds hsz
      have hbig := repT_size hlr hld hr.ids hd.ids
      obtain ⟨v, hv, v0, v1⟩ := pick_ev hc p' 3 q0 (by omega) (by omega)
      obtain ⟨t, q, ht, hts⟩ := mutate_ev hc (p' + 1) (by omega) (by omega) (repT rs ds) (by omega)
      unfold spec_DrawParseReport.f
      by_cases cv : v = 0
      · exact ⟨t, Ev.bind0 hb (Ev.bind he (Ev.bind hs (Ev.bind hv (Ev.iteT cv (Ev.bind ht (Ev.some_ rfl)))))), hts⟩
      · exact ⟨repT rs ds, Ev.bind0 hb (Ev.bind he (Ev.bind hs (Ev.bind hv (Ev.iteF cv (Ev.some_ rfl))))), by omega⟩
    obtain ⟨t, ht, hts⟩ := hdraw
    obtain ⟨s, rfl⟩ : ∃ s, t = ofL s := ⟨_, (ofL_data t).symm⟩
    rw [ofL_size] at hts
    have him := implParseR_ev s (by omega)
    have hsp := specParseR_ev s (by omega)
    obtain ⟨l1, l2⟩ := resR_length s
    have heq := equalReport_ev (resR s).1 (resR s).2.1 (by omega) (by omega)
    refine Ev.bind ht (Ev.bind him (Ev.bind hsp (Ev.bind heq (Ev.iteT rfl (Ev.iteF (by simp) ?_)))))
    have key : ∀ x : Bool, x = (!(resR s).2.2) → Ev (fun k => laws_FnParseReport.j0 k (ofL s) (resR s).2.2 (resR s).2.2 x (resR s).1 (resR s).2.1 (resR s).1 (resR s).2.1) true := by
      intro x hx
      by_cases cx : x = true
      · exact Ev.step (fun k => rfl) (Ev.iteT cx (Ev.bind heq (Ev.iteT rfl (Ev.some_ (by simp)))))
      · refine Ev.step (fun k => rfl) (Ev.iteF cx ?_)
        have hok : repT (readR s).1 (readR s).2 = ofL s := by
          by_cases hok : repT (readR s).1 (readR s).2 = ofL s
          · exact hok
          · have : (resR s).2.2 = false := by
              unfold resR finR
              rw [if_neg hok]
            rw [this] at hx
            exact absurd hx cx
        have hr : resR s = ((readR s).1, (readR s).2, true) := by
          unfold resR finR
          rw [if_pos hok]
        have hz := readR_sizes s (by omega)
        rw [hr]
        exact Ev.bind (implRep_ev _ _ hz) (Ev.some_ (by rw [hok]; simp))
    exact key _ rfl

end Go.Proofs.Ytieghkchhjailaa.Pure
