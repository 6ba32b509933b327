/- Plain laws, without Go: copies of lists made place by place. No condition. -/
import Derived.Test.YtphjcoondlhefaaLibA
namespace Go.Proofs.Ytphjcoondlhefaa.Q
open Go.RowKit
/-- What a copy holds after i rounds. -/
def half {α β : Type} (f : α → β) (z : β) (l : List α) (i : Nat) : List β := (l.take i).map f ++ List.replicate (l.length - i) z
theorem half_zero {α β : Type} (f : α → β) (z : β) (l : List α) : half f z l 0 = List.replicate l.length z := by simp [half]
theorem half_full {α β : Type} (f : α → β) (z : β) (l : List α) : half f z l l.length = l.map f := by simp [half]
theorem half_length {α β : Type} (f : α → β) (z : β) (l : List α) (i : Nat) (h : i ≤ l.length) : (half f z l i).length = l.length := by
  simp [half]
  omega
theorem half_set {α β : Type} (f : α → β) (z : β) (l : List α) (i : Nat) (h : i < l.length) : (half f z l i).set i (f l[i]) = half f z l (i + 1) := by
  have e : l.length - i = (l.length - (i + 1)) + 1 := by omega
  have hl : ((l.take i).map f).length = i := by
    rw [List.length_map, List.length_take]
    omega
  unfold half
  rw [List.set_append_right _ _ (by omega), hl, Nat.sub_self, e, List.replicate_succ, List.set_cons_zero, List.take_succ_eq_append_getElem h, List.map_append, List.append_assoc]
  rfl
end Go.Proofs.Ytphjcoondlhefaa.Q
