-- WRITTEN by this session's wip/ext.py: how the laws' arguments are told.
import Derived.Test.YtlnaejkbanpcjaaCx0
import Derived.Test.YtlnaejkbanpcjaaLibO
namespace Go.Proofs.Ytlnaejkbanpcjaa.C
open Go.RowKit Go.Proofs.YtlnaejkbanpcjaaW.PrintWords Go.Proofs.YtlnaejkbanpcjaaW.Opens
set_option linter.unusedVariables false
def ok55 (x : S55) : Prop := x.f0.size ≤ maxLen ∧ (x.f1.length ≤ maxLen ∧ ∀ y ∈ x.f1, (Lit.int .i64 y).wf = true)
theorem k55_opens : Opens Try.prog 55 k55 ok55 :=
  opens_imp (opens_struct (g := fun p => (⟨p.1, p.2⟩ : S55)) Try.underlying55 (by kernel_rfl) (fun _ => rfl) (opensFs_cons rfl (by kernel_rfl) (opens_string Try.underlying9) (opensFs_last rfl (by kernel_rfl) (opens_slice Try.underlying43 (by kernel_rfl) (opens_int Try.underlying3))))) rfl (fun x h => ⟨h.1, h.2⟩)
end Go.Proofs.Ytlnaejkbanpcjaa.C
