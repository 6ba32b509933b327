-- WRITTEN by this session's wip/ext.py: how the laws' arguments are told.
import Derived.Test.YtadhfpbkanobnaaUx0
import Derived.Test.YtadhfpbkanobnaaLibO
namespace Go.Proofs.Ytadhfpbkanobnaa.U
open Go.RowKit Go.Proofs.YtadhfpbkanobnaaW.PrintWords Go.Proofs.YtadhfpbkanobnaaW.Opens
set_option linter.unusedVariables false
def ok52 (x : S52) : Prop := x.f0.size ≤ maxLen ∧ x.f1.size ≤ maxLen ∧ (x.f2.length ≤ maxLen ∧ ∀ y ∈ x.f2, y.size ≤ maxLen) ∧ (x.f3.length ≤ maxLen ∧ ∀ y ∈ x.f3, y.size ≤ maxLen)
theorem k52_opens : Opens Try.prog 52 k52 ok52 :=
  opens_imp (opens_struct (g := fun p => (⟨p.1, p.2.1, p.2.2.1, p.2.2.2⟩ : S52)) Try.underlying52 (by kernel_rfl) (fun _ => rfl) (opensFs_cons rfl (by kernel_rfl) (opens_string Try.underlying9) (opensFs_cons rfl (by kernel_rfl) (opens_string Try.underlying9) (opensFs_cons rfl (by kernel_rfl) (opens_slice Try.underlying29 (by kernel_rfl) (opens_string Try.underlying9)) (opensFs_last rfl (by kernel_rfl) (opens_slice Try.underlying29 (by kernel_rfl) (opens_string Try.underlying9))))))) rfl (fun x h => ⟨h.1, h.2.1, h.2.2.1, h.2.2.2⟩)
end Go.Proofs.Ytadhfpbkanobnaa.U
