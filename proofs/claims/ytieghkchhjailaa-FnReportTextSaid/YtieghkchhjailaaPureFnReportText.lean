/- The law FnReportText answers true for every code: ReportText is what the reference says, a text is read back, and has a line for each of what is told. Its one condition: the code is a slice of bytes that fits into memory. -/
import Derived.Test.YtieghkchhjailaaPx30
import Derived.Test.YtieghkchhjailaaPx31
import Derived.Test.YtieghkchhjailaaLFnReportText
namespace Go.Proofs.Ytieghkchhjailaa.Pure
open Go.RowKit Go.Proofs.Ytieghkchhjailaa.P Go.Proofs.YtieghkchhjailaaW.PrintWords Go.Proofs.YtieghkchhjailaaW.PrintLast

theorem FnReportText : laws_FnReportText.Pure := by
  intro l0 hl hl2 hw
  refine Ev.rounds ?_
  unfold laws_FnReportText.f
  by_cases c : (l0.length : Int) > 1048576
  · exact Ev.iteT c (Ev.some_ rfl)
  · refine Ev.iteF c ?_
    obtain ⟨b, hb, hc⟩ := newReader_ev l0 (fun x hx => wfByte (hw x hx))
    obtain ⟨rs, ds, p', he, hr, hd, _, _⟩ := someReport_ev hc 0 (by omega) (by omega)
    have hdraw : Ev (fun k => spec_DrawReportText.f k l0) (rs, ds) := by
      unfold spec_DrawReportText.f
      exact Ev.bind0 hb (Ev.bind he (Ev.some_ rfl))
    have hlr := hr.len
    have hld := hd.len
    have hsz : RepSizes rs ds := ⟨by omega, fun e he => by have := hr.ids e he; omega, by omega, fun e he => by have := hd.ids e he; omega⟩
    have hi := implRep_ev rs ds hsz
    have hs := specRep_ev rs ds hsz
    have hbig := repT_size hlr hld hr.ids hd.ids
    refine Ev.bind hdraw (Ev.bind hi (Ev.bind hs (Ev.iteT rfl ?_)))
    have key : ∀ x : Bool, x = ((repT rs ds).toList == ([] : List UInt8)) → Ev (fun k => laws_FnReportText.j0 k (repT rs ds) x rs ds) true := by
      intro x hx
      by_cases cx : x = true
      · exact Ev.step (fun k => rfl) (Ev.iteT cx (Ev.bind hs (Ev.some_ (by simp))))
      · refine Ev.step (fun k => rfl) (Ev.iteF cx ?_)
        have hok : repOk rs ds = true := by
          by_cases hok : repOk rs ds = true
          · exact hok
          · rw [repT_lines, if_neg hok] at hx
            exact absurd (hx.trans (by rw [show (⟨#[]⟩ : ByteArray).toList = [] from ofL_toList []]; rfl)) cx
        have ht : repT rs ds = ofL (linesB (repLines rs ds)) := by rw [repT_lines, if_pos hok]
        have hn := rep_not hok
        rw [ht] at hbig ⊢
        rw [ofL_size] at hbig
        have hp := implParseR_ev (linesB (repLines rs ds)) (by omega)
        rw [resR_rep hok] at hp
        have hnl := newlines_ev (linesB (repLines rs ds)) (by omega)
        rw [linesB_count _ (fun x hx => (hn x hx).1)] at hnl
        refine Ev.bind hp (Ev.iteT rfl (Ev.bind (equalReport_ev rs ds (by omega) (by omega)) (Ev.iteT rfl (Ev.bind hnl (Ev.some_ ?_)))))
        rw [wrapI (by omega)]
        unfold repLines
        rw [List.length_append, List.length_map, List.length_map]
        simp
    exact key _ rfl

end Go.Proofs.Ytieghkchhjailaa.Pure
