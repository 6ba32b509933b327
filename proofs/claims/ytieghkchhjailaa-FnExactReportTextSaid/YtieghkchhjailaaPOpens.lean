-- WRITTEN by this session's wip/ext.py: how the laws' arguments are told.
import Derived.Test.YtieghkchhjailaaPx0
import Derived.Test.YtieghkchhjailaaLibO
namespace Go.Proofs.Ytieghkchhjailaa.P
open Go.RowKit Go.Proofs.YtieghkchhjailaaW.PrintWords Go.Proofs.YtieghkchhjailaaW.Opens
set_option linter.unusedVariables false
def ok73 (x : S73) : Prop := (Lit.int .i64 x.f0).wf = true ∧ x.f1.size ≤ maxLen
theorem k73_opens : Opens Try.prog 73 k73 ok73 :=
  opens_imp (opens_struct (g := fun p => (⟨p.1, p.2⟩ : S73)) Try.underlying73 (by kernel_rfl) (fun _ => rfl) (opensFs_cons rfl (by kernel_rfl) (opens_int Try.underlying3) (opensFs_last rfl (by kernel_rfl) (opens_string Try.underlying9)))) rfl (fun x h => ⟨h.1, h.2⟩)
def ok123 (x : S123) : Prop := x.f0.size ≤ maxLen ∧ (Lit.int .i64 x.f1).wf = true
theorem k123_opens : Opens Try.prog 123 k123 ok123 :=
  opens_imp (opens_struct (g := fun p => (⟨p.1, p.2⟩ : S123)) Try.underlying123 (by kernel_rfl) (fun _ => rfl) (opensFs_cons rfl (by kernel_rfl) (opens_string Try.underlying9) (opensFs_last rfl (by kernel_rfl) (opens_int Try.underlying3)))) rfl (fun x h => ⟨h.1, h.2⟩)
structure S57 where
  f0 : List (S123)
  f1 : List ByteArray
def k57 : Kd S57 := Kd.iso (Kd.pair (Kd.slice 123 k123) (Kd.slice 9 Kd.string)) (fun x : S57 => (x.f0, x.f1))
theorem k57_open {w : World} {x : S57} {cs : List Value} (h : k57.K w x cs) : ∃ A0 c0 A1 c1, cs = [.slice A0 x.f0.length c0, .slice A1 x.f1.length c1] ∧ x.f0.length ≤ c0 ∧ Kd.C k123 w A0 x.f0.length x.f0 ∧ x.f1.length ≤ c1 ∧ Kd.C Kd.string w A1 x.f1.length x.f1 := by
  obtain ⟨_, _, rfl, ⟨A0, c0, rfl, l0, g0⟩, ⟨A1, c1, rfl, l1, g1⟩⟩ := h
  exact ⟨A0, c0, A1, c1, rfl, l0, g0, l1, g1⟩
def ok57 (x : S57) : Prop := (x.f0.length ≤ maxLen ∧ ∀ y ∈ x.f0, ok123 y) ∧ (x.f1.length ≤ maxLen ∧ ∀ y ∈ x.f1, y.size ≤ maxLen)
theorem k57_opens : Opens Try.prog 57 k57 ok57 :=
  opens_imp (opens_struct (g := fun p => (⟨p.1, p.2⟩ : S57)) Try.underlying57 (by kernel_rfl) (fun _ => rfl) (opensFs_cons rfl (by kernel_rfl) (opens_slice Try.underlying55 (by kernel_rfl) k123_opens) (opensFs_last rfl (by kernel_rfl) (opens_slice Try.underlying31 (by kernel_rfl) (opens_string Try.underlying9))))) rfl (fun x h => ⟨h.1, h.2⟩)
end Go.Proofs.Ytieghkchhjailaa.P
