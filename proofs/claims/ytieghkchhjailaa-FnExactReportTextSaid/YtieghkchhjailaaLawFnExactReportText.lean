-- WRITTEN by this session's wip/ext.py: the row of the law laws_FnExactReportText, out of its Pure and the printed walk.
import Derived.Test.YtieghkchhjailaaRows
import Derived.Test.YtieghkchhjailaaPx14
import Derived.Test.YtieghkchhjailaaPOpens
import Derived.Test.YtieghkchhjailaaPuFnExactReportText
import Derived.Test.YtieghkchhjailaaPureFnExactReportText
import Derived.WalkKit
import Derived.ProofKit
import Derived.OpenShut
import Derived.ShutString
import Derived.ChangeOld
import Derived.Below
import Derived.SizedLaws
namespace Go.Proofs.Ytieghkchhjailaa.fnExactReportText
open Go.ChangeShapes Go.WideShapes Go.ChangeAt Go.RowKit Go.Proofs.Ytieghkchhjailaa.P Go.Proofs.YtieghkchhjailaaW.PrintWords Go.Proofs.YtieghkchhjailaaW.Opens
open Go.ChangeMaps (open_string shut_string)
set_option linter.unusedVariables false
theorem own : ownKnob Try.prog.godebug = none := by kernel_rfl
theorem laidOut : laidOutB Try.prog = true := by kernel_rfl
set_option maxRecDepth 100000 in
theorem lifted (os : Os) (started : os.Started) (H : Type) (enc : TypeId × Value → H) :
    ReturnsInHanded {} Try.checked os 7 .any (Rows.fnExactReportTextSpec.pre6 enc Try.prog Try.f7 Rows.fnExactReportTextRow.domain false) (Rows.fnExactReportTextSpec.post enc Try.prog Try.f7 false true false false) := by
  refine returnsInHanded_of_change_sized (C := Try.checked) own started (by kernel_rfl) Try.func7
    (ChangeSpec.witness6 (enc := enc) (C := Try.checked) false ⟨#[], #[.agg #[.slice none 0 0, .slice none 0 0]], []⟩ 8 (by kernel_rfl) (by kernel_rfl) (by kernel_rfl) (by kernel_rfl)) ?_
  intro W base args ds gs before hval0 hW hcnd hsz0 _
  have hval : ∀ (j : Nat) t v, Try.f7.params[j]? = some t → args[j]? = some v → Value.okWide Try.prog W .any base t v := hval0
  have hW' := hW
  obtain ⟨p, q, hA0, hV, rfl, hfz, hnd⟩ := hW
  have hA : DataW.TrodAll enc Try.prog W 0 (fun _ => true) true Try.f7.params.toList args.toList ds p := hA0
  rw [Try.params7] at hA hval
  obtain ⟨v0, vs0, d0, ds0, p0, q0, hargs, rfl, rfl, h0, r0⟩ := trodAll_cons hA
  obtain ⟨rfl, rfl, rfl⟩ := trodAll_nil r0
  obtain rfl : args = #[v0] := by cases args; simp_all
  obtain ⟨rfl, rfl⟩ := trodVars_none hV
  obtain ⟨cs0, rfl, _⟩ := okWide_struct Try.underlying57 (hval 0 57 v0 rfl rfl)
  have k0 := h0
  have lt0 : ∀ x ∈ p0, x.block < W.heap.size := by obtain ⟨m, hm⟩ := k0; exact DataW.trod_lt m _ _ _ hm
  obtain ⟨fuel0, hf0⟩ := h0
  obtain ⟨x0, hK0, ok0⟩ := k57_opens.out enc W 0 (fun _ => true) true fuel0 _ _ hf0
  obtain ⟨A0_0, c0_0, A0_1, c0_1, e0, hl0_0, hr0_0, hl0_1, hr0_1⟩ := k57_open hK0
  obtain rfl : cs0 = #[.slice A0_0 x0.f0.length c0_0, .slice A0_1 x0.f1.length c0_1] := Array.ext' (show cs0.toList = _ from e0)
  clear hA0 hval0 hsz0
  obtain ⟨k, h⟩ := Pure.FnExactReportText x0 ok0
  refine (laws_FnExactReportText.calls (k := k) (l0_0 := x0.f0) (hr0_0 := hr0_0) (hc0_0 := hl0_0) (l0_1 := x0.f1) (hr0_1 := hr0_1) (hc0_1 := hl0_1) (r := true) (w := W) (h := h)).mono fun e W' ⟨he, bel0⟩ => ?_
  have bel : Below W.heap.size W W' := bel0
  subst he
  exact ⟨_, rfl, _, _, _, [], _, [], hW', trodAll_mk1 (shut_bool Try.underlying4 _), (trodAll_cons_mk (Below.trod laidOut (by kernel_rfl) (of_decide_eq_true (by kernel_rfl)) k0 bel lt0) trodAll_mk0), rfl, bel.frame _, fun h => by cases h⟩
theorem over : Rows.fnExactReportTextRow.holds Try.pinned (OpenSpec.ofChange Rows.fnExactReportTextSpec) :=
  OpenClaim.holds_of_wide 7 Try.f7 rfl rfl rfl rfl rfl rfl rfl ⟨rfl, rfl, rfl, rfl, rfl⟩ rfl rfl rfl rfl rfl (by kernel_rfl) Try.func7 (by kernel_rfl)
    (of_decide_eq_true (by kernel_rfl)) (by unfold Func.isWrapper; first | (rw [if_pos (by decide +kernel)]; kernel_rfl) | (rw [if_neg (by decide +kernel)]; exact ⟨rfl, rfl⟩))
    (fun os started H enc _ => lifted os started H enc)
theorem proved : Rows.FnExactReportTextSaid := over
#print axioms proved
end Go.Proofs.Ytieghkchhjailaa.fnExactReportText
namespace Go.Proofs.Ytieghkchhjailaa
/-- The row, under a short name, for the claim. -/
theorem fnExactReportText_holds : Rows.FnExactReportTextSaid := fnExactReportText.proved
end Go.Proofs.Ytieghkchhjailaa
