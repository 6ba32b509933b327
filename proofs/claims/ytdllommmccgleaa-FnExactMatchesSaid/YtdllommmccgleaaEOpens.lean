-- WRITTEN by this session's wip/ext.py: how the laws' arguments are told.
import Derived.Test.YtdllommmccgleaaEx0
import Derived.Test.YtdllommmccgleaaLibO
namespace Go.Proofs.Ytdllommmccgleaa.E
open Go.RowKit Go.Proofs.YtdllommmccgleaaW.PrintWords Go.Proofs.YtdllommmccgleaaW.Opens
set_option linter.unusedVariables false
structure S25 where
  f0 : ByteArray
  f1 : ByteArray
  f2 : List ByteArray
  f3 : List ByteArray
def k25 : Kd S25 := Kd.iso (Kd.pair Kd.string (Kd.pair Kd.string (Kd.pair (Kd.slice 9 Kd.string) (Kd.slice 9 Kd.string)))) (fun x : S25 => (x.f0, x.f1, x.f2, x.f3))
theorem k25_open {w : World} {x : S25} {cs : List Value} (h : k25.K w x cs) : ∃ A2 c2 A3 c3, cs = [.string x.f0, .string x.f1, .slice A2 x.f2.length c2, .slice A3 x.f3.length c3] ∧ x.f2.length ≤ c2 ∧ Kd.C Kd.string w A2 x.f2.length x.f2 ∧ x.f3.length ≤ c3 ∧ Kd.C Kd.string w A3 x.f3.length x.f3 := by
  obtain ⟨_, _, rfl, rfl, ⟨_, _, rfl, rfl, ⟨_, _, rfl, ⟨A2, c2, rfl, l2, g2⟩, ⟨A3, c3, rfl, l3, g3⟩⟩⟩⟩ := h
  exact ⟨A2, c2, A3, c3, rfl, l2, g2, l3, g3⟩
def ok25 (x : S25) : Prop := x.f0.size ≤ maxLen ∧ x.f1.size ≤ maxLen ∧ (x.f2.length ≤ maxLen ∧ ∀ y ∈ x.f2, y.size ≤ maxLen) ∧ (x.f3.length ≤ maxLen ∧ ∀ y ∈ x.f3, y.size ≤ maxLen)
theorem k25_opens : Opens Try.prog 25 k25 ok25 :=
  opens_imp (opens_struct (g := fun p => (⟨p.1, p.2.1, p.2.2.1, p.2.2.2⟩ : S25)) Try.underlying25 (by kernel_rfl) (fun _ => rfl) (opensFs_cons rfl (by kernel_rfl) (opens_string Try.underlying9) (opensFs_cons rfl (by kernel_rfl) (opens_string Try.underlying9) (opensFs_cons rfl (by kernel_rfl) (opens_slice Try.underlying23 (by kernel_rfl) (opens_string Try.underlying9)) (opensFs_last rfl (by kernel_rfl) (opens_slice Try.underlying23 (by kernel_rfl) (opens_string Try.underlying9))))))) rfl (fun x h => ⟨h.1, h.2.1, h.2.2.1, h.2.2.2⟩)
end Go.Proofs.Ytdllommmccgleaa.E
