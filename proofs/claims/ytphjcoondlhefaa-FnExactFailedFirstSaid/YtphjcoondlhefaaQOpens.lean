-- WRITTEN by this session's wip/ext.py: how the laws' arguments are told.
import Derived.Test.YtphjcoondlhefaaQx0
import Derived.Test.YtphjcoondlhefaaLibO
namespace Go.Proofs.Ytphjcoondlhefaa.Q
open Go.RowKit Go.Proofs.YtphjcoondlhefaaW.PrintWords Go.Proofs.YtphjcoondlhefaaW.Opens
set_option linter.unusedVariables false
def ok66 (x : S66) : Prop := x.f0.size ≤ maxLen ∧ True ∧ (Lit.int .i64 x.f2).wf = true
theorem k66_opens : Opens Try.prog 66 k66 ok66 :=
  opens_imp (opens_struct (g := fun p => (⟨p.1, p.2.1, p.2.2⟩ : S66)) Try.underlying66 (by kernel_rfl) (fun _ => rfl) (opensFs_cons rfl (by kernel_rfl) (opens_string Try.underlying9) (opensFs_cons rfl (by kernel_rfl) (opens_bool Try.underlying4) (opensFs_last rfl (by kernel_rfl) (opens_int Try.underlying3))))) rfl (fun x h => ⟨h.1, h.2.1, h.2.2⟩)
end Go.Proofs.Ytphjcoondlhefaa.Q
