-- WRITTEN by this session's wip/ext.py: the row of the law laws_FnExactPlayCalls, out of its Pure and the printed walk.
import Derived.Test.YtcbkpdgbijdbbaaRows
import Derived.Test.YtcbkpdgbijdbbaaNx13
import Derived.Test.YtcbkpdgbijdbbaaNOpens
import Derived.Test.YtcbkpdgbijdbbaaPuFnExactPlayCalls
import Derived.Test.YtcbkpdgbijdbbaaPureFnExactPlayCalls
import Derived.WalkKit
import Derived.ProofKit
import Derived.OpenShut
import Derived.ShutString
import Derived.ChangeOld
import Derived.Below
import Derived.SizedLaws
namespace Go.Proofs.Ytcbkpdgbijdbbaa.fnExactPlayCalls
open Go.ChangeShapes Go.WideShapes Go.ChangeAt Go.RowKit Go.Proofs.Ytcbkpdgbijdbbaa.N Go.Proofs.YtcbkpdgbijdbbaaW.PrintWords Go.Proofs.YtcbkpdgbijdbbaaW.Opens
open Go.ChangeMaps (open_string shut_string)
set_option linter.unusedVariables false
theorem own : ownKnob Try.prog.godebug = none := by kernel_rfl
theorem laidOut : laidOutB Try.prog = true := by kernel_rfl
set_option maxRecDepth 100000 in
theorem lifted (os : Os) (started : os.Started) (H : Type) (enc : TypeId × Value → H) :
    ReturnsInHanded {} Try.checked os 9 .any (Rows.fnExactPlayCallsSpec.pre6 enc Try.prog Try.f9 Rows.fnExactPlayCallsRow.domain false) (Rows.fnExactPlayCallsSpec.post enc Try.prog Try.f9 false true false false) := by
  refine returnsInHanded_of_change_sized (C := Try.checked) own started (by kernel_rfl) Try.func9
    (ChangeSpec.witness6 (enc := enc) (C := Try.checked) false ⟨#[], #[.agg #[.slice none 0 0], .slice none 0 0], []⟩ 8 (by kernel_rfl) (by kernel_rfl) (by kernel_rfl) (by kernel_rfl)) ?_
  intro W base args ds gs before hval0 hW hcnd hsz0 _
  have hval : ∀ (j : Nat) t v, Try.f9.params[j]? = some t → args[j]? = some v → Value.okWide Try.prog W .any base t v := hval0
  have hW' := hW
  obtain ⟨p, q, hA0, hV, rfl, hfz, hnd⟩ := hW
  have hA : DataW.TrodAll enc Try.prog W 0 (fun _ => true) true Try.f9.params.toList args.toList ds p := hA0
  rw [Try.params9] at hA hval
  obtain ⟨v0, vs0, d0, ds0, p0, q0, hargs, rfl, rfl, h0, r0⟩ := trodAll_cons hA
  obtain ⟨v1, vs1, d1, ds1, p1, q1, rfl, rfl, rfl, h1, r1⟩ := trodAll_cons r0
  obtain ⟨rfl, rfl, rfl⟩ := trodAll_nil r1
  obtain rfl : args = #[v0, v1] := by cases args; simp_all
  obtain ⟨rfl, rfl⟩ := trodVars_none hV
  obtain ⟨cs0, rfl, _⟩ := okWide_struct Try.underlying64 (hval 0 64 v0 rfl rfl)
  have k0 := h0
  have lt0 : ∀ x ∈ p0, x.block < W.heap.size := by obtain ⟨m, hm⟩ := k0; exact DataW.trod_lt m _ _ _ hm
  obtain ⟨fuel0, hf0⟩ := h0
  obtain ⟨x0, hK0, ok0⟩ := k64_opens.out enc W 0 (fun _ => true) true fuel0 _ _ hf0
  obtain ⟨A0_0, c0_0, e0, hl0_0, hr0_0⟩ := k64_open hK0
  obtain rfl : cs0 = #[.slice A0_0 x0.f0.length c0_0] := Array.ext' (show cs0.toList = _ from e0)
  obtain ⟨a1, len1, cap1, rfl⟩ := okWide_slice Try.underlying50 (hval 1 50 v1 rfl rfl)
  have k1 := h1
  have lt1 : ∀ x ∈ p1, x.block < W.heap.size := by obtain ⟨m, hm⟩ := k1; exact DataW.trod_lt m _ _ _ hm
  obtain ⟨fuel1, hf1⟩ := h1
  obtain ⟨l1, ⟨A1, c1, e1, hl1, hr1⟩, ok1⟩ := (opens_slice Try.underlying50 (by kernel_rfl) k90_opens).out enc W 0 (fun _ => true) true fuel1 _ _ hf1
  replace e1 : [Value.slice a1 len1 cap1] = [Value.slice A1 l1.length c1] := e1
  simp only [List.cons.injEq, Value.slice.injEq, and_true] at e1
  obtain ⟨rfl, rfl, rfl⟩ := e1
  clear hA0 hval0 hsz0
  obtain ⟨k, h⟩ := Pure.FnExactPlayCalls x0 l1 ok0 ok1.1 ok1.2
  refine (laws_FnExactPlayCalls.calls (k := k) (l0_0 := x0.f0) (hr0_0 := hr0_0) (hc0_0 := hl0_0) (l1 := l1) (hr1 := hr1) (hc1 := hl1) (r := true) (w := W) (h := h)).mono fun e W' ⟨he, bel0⟩ => ?_
  have bel : Below W.heap.size W W' := bel0
  subst he
  exact ⟨_, rfl, _, _, _, [], _, [], hW', trodAll_mk1 (shut_bool Try.underlying4 _), (trodAll_cons_mk (Below.trod laidOut (by kernel_rfl) (of_decide_eq_true (by kernel_rfl)) k0 bel lt0) (trodAll_cons_mk (Below.trod laidOut (by kernel_rfl) (of_decide_eq_true (by kernel_rfl)) k1 bel lt1) trodAll_mk0)), rfl, bel.frame _, fun h => by cases h⟩
theorem over : Rows.fnExactPlayCallsRow.holds Try.pinned (OpenSpec.ofChange Rows.fnExactPlayCallsSpec) :=
  OpenClaim.holds_of_wide 9 Try.f9 rfl rfl rfl rfl rfl rfl rfl ⟨rfl, rfl, rfl, rfl, rfl⟩ rfl rfl rfl rfl rfl (by kernel_rfl) Try.func9 (by kernel_rfl)
    (of_decide_eq_true (by kernel_rfl)) (by unfold Func.isWrapper; first | (rw [if_pos (by decide +kernel)]; kernel_rfl) | (rw [if_neg (by decide +kernel)]; exact ⟨rfl, rfl⟩))
    (fun os started H enc _ => lifted os started H enc)
theorem proved : Rows.FnExactPlayCallsSaid := over
#print axioms proved
end Go.Proofs.Ytcbkpdgbijdbbaa.fnExactPlayCalls
namespace Go.Proofs.Ytcbkpdgbijdbbaa
/-- The row, under a short name, for the claim. -/
theorem fnExactPlayCalls_holds : Rows.FnExactPlayCallsSaid := fnExactPlayCalls.proved
end Go.Proofs.Ytcbkpdgbijdbbaa
