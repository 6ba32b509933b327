-- WRITTEN by this session's wip/ext.py: how the laws' arguments are told.
import Derived.Test.YtcbkpdgbijdbbaaNx0
import Derived.Test.YtcbkpdgbijdbbaaLibO
namespace Go.Proofs.Ytcbkpdgbijdbbaa.N
open Go.RowKit Go.Proofs.YtcbkpdgbijdbbaaW.PrintWords Go.Proofs.YtcbkpdgbijdbbaaW.Opens
set_option linter.unusedVariables false
def ok114 (x : S114) : Prop := x.f0.size ≤ maxLen ∧ (x.f1.length ≤ maxLen ∧ ∀ y ∈ x.f1, (Lit.int .i64 y).wf = true)
theorem k114_opens : Opens Try.prog 114 k114 ok114 :=
  opens_imp (opens_struct (g := fun p => (⟨p.1, p.2⟩ : S114)) Try.underlying114 (by kernel_rfl) (fun _ => rfl) (opensFs_cons rfl (by kernel_rfl) (opens_string Try.underlying9) (opensFs_last rfl (by kernel_rfl) (opens_slice Try.underlying27 (by kernel_rfl) (opens_int Try.underlying3))))) rfl (fun x h => ⟨h.1, h.2⟩)
structure S64 where
  f0 : List (S114)
def k64 : Kd S64 := Kd.iso (Kd.slice 114 k114) (fun x : S64 => x.f0)
theorem k64_open {w : World} {x : S64} {cs : List Value} (h : k64.K w x cs) : ∃ A0 c0, cs = [.slice A0 x.f0.length c0] ∧ x.f0.length ≤ c0 ∧ Kd.C k114 w A0 x.f0.length x.f0 := by
  obtain ⟨A0, c0, rfl, l0, g0⟩ := h
  exact ⟨A0, c0, rfl, l0, g0⟩
def ok64 (x : S64) : Prop := (x.f0.length ≤ maxLen ∧ ∀ y ∈ x.f0, ok114 y)
theorem k64_opens : Opens Try.prog 64 k64 ok64 :=
  opens_imp (opens_struct (g := fun p => (⟨p⟩ : S64)) Try.underlying64 (by kernel_rfl) (fun _ => rfl) (opensFs_last rfl (by kernel_rfl) (opens_slice Try.underlying62 (by kernel_rfl) k114_opens))) rfl (fun x h => h)
def ok90 (x : S90) : Prop := x.f0.size ≤ maxLen ∧ (x.f1.length ≤ maxLen ∧ ∀ y ∈ x.f1, (Lit.int .i64 y).wf = true)
theorem k90_opens : Opens Try.prog 90 k90 ok90 :=
  opens_imp (opens_struct (g := fun p => (⟨p.1, p.2⟩ : S90)) Try.underlying90 (by kernel_rfl) (fun _ => rfl) (opensFs_cons rfl (by kernel_rfl) (opens_string Try.underlying9) (opensFs_last rfl (by kernel_rfl) (opens_slice Try.underlying27 (by kernel_rfl) (opens_int Try.underlying3))))) rfl (fun x h => ⟨h.1, h.2⟩)
end Go.Proofs.Ytcbkpdgbijdbbaa.N
