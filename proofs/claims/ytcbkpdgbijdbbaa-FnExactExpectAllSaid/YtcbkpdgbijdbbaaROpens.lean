-- WRITTEN by this session's wip/ext.py: how the laws' arguments are told.
import Derived.Test.YtcbkpdgbijdbbaaRx0
import Derived.Test.YtcbkpdgbijdbbaaLibO
namespace Go.Proofs.Ytcbkpdgbijdbbaa.R
open Go.RowKit Go.Proofs.YtcbkpdgbijdbbaaW.PrintWords Go.Proofs.YtcbkpdgbijdbbaaW.Opens
set_option linter.unusedVariables false
def ok90 (x : S90) : Prop := x.f0.size ≤ maxLen ∧ (x.f1.length ≤ maxLen ∧ ∀ y ∈ x.f1, (Lit.int .i64 y).wf = true)
theorem k90_opens : Opens Try.prog 90 k90 ok90 :=
  opens_imp (opens_struct (g := fun p => (⟨p.1, p.2⟩ : S90)) Try.underlying90 (by kernel_rfl) (fun _ => rfl) (opensFs_cons rfl (by kernel_rfl) (opens_string Try.underlying9) (opensFs_last rfl (by kernel_rfl) (opens_slice Try.underlying27 (by kernel_rfl) (opens_int Try.underlying3))))) rfl (fun x h => ⟨h.1, h.2⟩)
end Go.Proofs.Ytcbkpdgbijdbbaa.R
