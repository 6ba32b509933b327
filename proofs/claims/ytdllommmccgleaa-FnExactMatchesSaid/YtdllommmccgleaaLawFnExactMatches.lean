-- WRITTEN by this session's wip/ext.py: the row of the law laws_FnExactMatches, out of its Pure and the printed walk.
import Derived.Test.YtdllommmccgleaaRows
import Derived.Test.YtdllommmccgleaaEx21
import Derived.Test.YtdllommmccgleaaEOpens
import Derived.Test.YtdllommmccgleaaPuFnExactMatches
import Derived.Test.YtdllommmccgleaaPureFnExactMatches
import Derived.WalkKit
import Derived.ProofKit
import Derived.OpenShut
import Derived.ShutString
import Derived.ChangeOld
import Derived.Below
import Derived.SizedLaws
namespace Go.Proofs.Ytdllommmccgleaa.fnExactMatches
open Go.ChangeShapes Go.WideShapes Go.ChangeAt Go.RowKit Go.Proofs.Ytdllommmccgleaa.E Go.Proofs.YtdllommmccgleaaW.PrintWords Go.Proofs.YtdllommmccgleaaW.Opens
open Go.ChangeMaps (open_string shut_string)
set_option linter.unusedVariables false
theorem own : ownKnob Try.prog.godebug = none := by kernel_rfl
theorem laidOut : laidOutB Try.prog = true := by kernel_rfl
set_option maxRecDepth 100000 in
theorem lifted (os : Os) (started : os.Started) (H : Type) (enc : TypeId × Value → H) :
    ReturnsInHanded {} Try.checked os 4 .any (Rows.fnExactMatchesSpec.pre6 enc Try.prog Try.f4 Rows.fnExactMatchesRow.domain false) (Rows.fnExactMatchesSpec.post enc Try.prog Try.f4 false true false false) := by
  refine returnsInHanded_of_change_sized (C := Try.checked) own started (by kernel_rfl) Try.func4
    (ChangeSpec.witness6 (enc := enc) (C := Try.checked) false ⟨#[], #[.string ByteArray.empty, .agg #[.string ByteArray.empty, .string ByteArray.empty, .slice none 0 0, .slice none 0 0]], []⟩ 8 (by kernel_rfl) (by kernel_rfl) (by kernel_rfl) (by kernel_rfl)) ?_
  intro W base args ds gs before hval0 hW hcnd hsz0 _
  have hval : ∀ (j : Nat) t v, Try.f4.params[j]? = some t → args[j]? = some v → Value.okWide Try.prog W .any base t v := hval0
  have hW' := hW
  obtain ⟨p, q, hA0, hV, rfl, hfz, hnd⟩ := hW
  have hA : DataW.TrodAll enc Try.prog W 0 (fun _ => true) true Try.f4.params.toList args.toList ds p := hA0
  rw [Try.params4] at hA hval
  obtain ⟨v0, vs0, d0, ds0, p0, q0, hargs, rfl, rfl, h0, r0⟩ := trodAll_cons hA
  obtain ⟨v1, vs1, d1, ds1, p1, q1, rfl, rfl, rfl, h1, r1⟩ := trodAll_cons r0
  obtain ⟨rfl, rfl, rfl⟩ := trodAll_nil r1
  obtain rfl : args = #[v0, v1] := by cases args; simp_all
  obtain ⟨rfl, rfl⟩ := trodVars_none hV
  obtain ⟨a0, rfl, rfl, rfl, y0⟩ := open_string Try.underlying9 (hval 0 9 v0 rfl rfl) h0
  obtain ⟨cs1, rfl, _⟩ := okWide_struct Try.underlying25 (hval 1 25 v1 rfl rfl)
  have k1 := h1
  have lt1 : ∀ x ∈ p1, x.block < W.heap.size := by obtain ⟨m, hm⟩ := k1; exact DataW.trod_lt m _ _ _ hm
  obtain ⟨fuel1, hf1⟩ := h1
  obtain ⟨x1, hK1, ok1⟩ := k25_opens.out enc W 0 (fun _ => true) true fuel1 _ _ hf1
  obtain ⟨A1_2, c1_2, A1_3, c1_3, e1, hl1_2, hr1_2, hl1_3, hr1_3⟩ := k25_open hK1
  obtain rfl : cs1 = #[.string x1.f0, .string x1.f1, .slice A1_2 x1.f2.length c1_2, .slice A1_3 x1.f3.length c1_3] := Array.ext' (show cs1.toList = _ from e1)
  clear hA0 hval0 hsz0
  obtain ⟨k, h⟩ := Pure.FnExactMatches a0 x1 y0 ok1
  refine (laws_FnExactMatches.calls (k := k) (a0 := a0) (a1_0 := x1.f0) (a1_1 := x1.f1) (l1_2 := x1.f2) (hr1_2 := hr1_2) (hc1_2 := hl1_2) (l1_3 := x1.f3) (hr1_3 := hr1_3) (hc1_3 := hl1_3) (r := true) (w := W) (h := h)).mono fun e W' ⟨he, bel0⟩ => ?_
  have bel : Below W.heap.size W W' := bel0
  subst he
  exact ⟨_, rfl, _, _, _, [], _, [], hW', trodAll_mk1 (shut_bool Try.underlying4 _), (trodAll_cons_mk (shut_string Try.underlying9 y0) (trodAll_cons_mk (Below.trod laidOut (by kernel_rfl) (of_decide_eq_true (by kernel_rfl)) k1 bel lt1) trodAll_mk0)), rfl, bel.frame _, fun h => by cases h⟩
theorem over : Rows.fnExactMatchesRow.holds Try.pinned (OpenSpec.ofChange Rows.fnExactMatchesSpec) :=
  OpenClaim.holds_of_wide 4 Try.f4 rfl rfl rfl rfl rfl rfl rfl ⟨rfl, rfl, rfl, rfl, rfl⟩ rfl rfl rfl rfl rfl (by kernel_rfl) Try.func4 (by kernel_rfl)
    (of_decide_eq_true (by kernel_rfl)) (by unfold Func.isWrapper; first | (rw [if_pos (by decide +kernel)]; kernel_rfl) | (rw [if_neg (by decide +kernel)]; exact ⟨rfl, rfl⟩))
    (fun os started H enc _ => lifted os started H enc)
theorem proved : Rows.FnExactMatchesSaid := over
#print axioms proved
end Go.Proofs.Ytdllommmccgleaa.fnExactMatches
namespace Go.Proofs.Ytdllommmccgleaa
/-- The row, under a short name, for the claim. -/
theorem fnExactMatches_holds : Rows.FnExactMatchesSaid := fnExactMatches.proved
end Go.Proofs.Ytdllommmccgleaa
