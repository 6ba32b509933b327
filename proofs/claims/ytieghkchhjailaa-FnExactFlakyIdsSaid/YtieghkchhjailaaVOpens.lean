-- WRITTEN by this session's wip/ext.py: how the laws' arguments are told.
import Derived.Test.YtieghkchhjailaaVx0
import Derived.Test.YtieghkchhjailaaLibO
namespace Go.Proofs.Ytieghkchhjailaa.V
open Go.RowKit Go.Proofs.YtieghkchhjailaaW.PrintWords Go.Proofs.YtieghkchhjailaaW.Opens
set_option linter.unusedVariables false
def ok123 (x : S123) : Prop := x.f0.size ≤ maxLen ∧ (Lit.int .i64 x.f1).wf = true
theorem k123_opens : Opens Try.prog 123 k123 ok123 :=
  opens_imp (opens_struct (g := fun p => (⟨p.1, p.2⟩ : S123)) Try.underlying123 (by kernel_rfl) (fun _ => rfl) (opensFs_cons rfl (by kernel_rfl) (opens_string Try.underlying9) (opensFs_last rfl (by kernel_rfl) (opens_int Try.underlying3)))) rfl (fun x h => ⟨h.1, h.2⟩)
def ok57 (x : S57) : Prop := (x.f0.length ≤ maxLen ∧ ∀ y ∈ x.f0, ok123 y) ∧ (x.f1.length ≤ maxLen ∧ ∀ y ∈ x.f1, y.size ≤ maxLen)
theorem k57_opens : Opens Try.prog 57 k57 ok57 :=
  opens_imp (opens_struct (g := fun p => (⟨p.1, p.2⟩ : S57)) Try.underlying57 (by kernel_rfl) (fun _ => rfl) (opensFs_cons rfl (by kernel_rfl) (opens_slice Try.underlying55 (by kernel_rfl) k123_opens) (opensFs_last rfl (by kernel_rfl) (opens_slice Try.underlying31 (by kernel_rfl) (opens_string Try.underlying9))))) rfl (fun x h => ⟨h.1, h.2⟩)
end Go.Proofs.Ytieghkchhjailaa.V
