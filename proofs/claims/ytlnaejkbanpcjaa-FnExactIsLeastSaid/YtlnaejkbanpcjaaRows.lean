/-
  No cell of these rows narrows 'for every input' (looked for: loops, veiled, ifaces, maps, wideKeys, modest, calm, conditions, laid).
  DERIVED. THE GIVEN ROWS OF THIS SEAT. 7 by the template 'for every input the law returns true; each argument reads behind the call as it read before'; 0 by the template 'total and deterministic' (their statements: YtlnaejkbanpcjaaTotals.lean).
  GIVEN WITH THE SEED: the statements are not yours to turn. If you find one false, say at which input.
  Laid BY PROGRAM, IN A SANDBOX (cutbox-rows.mjs): the forced cells as the released guide's own fill.sh prints them over the translation 0fdcf9fc4aad9224… (all of the seat's roots in one cut). By AI agents, Wed Nov 11 2026. No macro, syntax, notation, axiom, sorry.
-/
import Derived.Test.YtlnaejkbanpcjaaChecked
import GoSem.Claim
import GoSem.ClaimJoined
import GoSem.ClaimMapViews
import Derived.JoinedTies
import Derived.KernelRfl
namespace Go.Proofs.Ytlnaejkbanpcjaa
/- THE CELL 'sum', in the pinned program and in every row, IS THE sha256 OF THE DUMP (.gsa) THAT YtlnaejkbanpcjaaProg.lean LOADS. Nothing in Lean hashes anything: it is a label: what it is worth is what the hold of that sum in a sandbox is worth. -/
noncomputable def Try.pinned : Pinned := { name := "ytlnaejkbanpcjaa", sum := "0fdcf9fc4aad9224e251b503d780fa2c09617875e3b10b82bbdf897751b45c06", checked := Try.checked }
namespace Rows
def none {H : Type} : Left H := { results := [], args := [] }

/-- 'laws.FnExactValidCauses': WHATEVER THE INPUT: true; the input reads as it did. -/
def fnExactValidCausesSpec : ChangeSpec := { name := "fnExactValidCauses", fn := fun _ => fun
  | [d] => { results := [.lit (.bool true)], args := [d] }
  | _ => none }
def fnExactValidCausesRow : OpenClaim := { program := "ytlnaejkbanpcjaa", sum := "0fdcf9fc4aad9224e251b503d780fa2c09617875e3b10b82bbdf897751b45c06", func := "loop.example/fixturehouse/laws.FnExactValidCauses", spec := "fnExactValidCauses", inPlace := ["internal/bytealg.IndexByteString", "internal/bytealg.IndexString"], named := ["internal/bytealg.MaxLen"], apart := false }
def FnExactValidCausesSaid : Prop := fnExactValidCausesRow.holds Try.pinned (OpenSpec.ofChange fnExactValidCausesSpec)

/-- ITS FALSE NEIGHBOUR: 'it returns false'. Refute it at one input. -/
def fnExactValidCausesWrong : ChangeSpec := { name := "fnExactValidCauses", fn := fun _ => fun
  | [d] => { results := [.lit (.bool false)], args := [d] }
  | _ => none }
def FnExactValidCausesWrongFalsely : Prop := fnExactValidCausesRow.holds Try.pinned (OpenSpec.ofChange fnExactValidCausesWrong)

/-- 'laws.FnValidCauses': WHATEVER THE INPUT: true; the input reads as it did. -/
def fnValidCausesSpec : ChangeSpec := { name := "fnValidCauses", fn := fun _ => fun
  | [d] => { results := [.lit (.bool true)], args := [d] }
  | _ => none }
def fnValidCausesRow : OpenClaim := { program := "ytlnaejkbanpcjaa", sum := "0fdcf9fc4aad9224e251b503d780fa2c09617875e3b10b82bbdf897751b45c06", func := "loop.example/fixturehouse/laws.FnValidCauses", spec := "fnValidCauses", inPlace := ["internal/bytealg.IndexByteString", "internal/bytealg.IndexString"], unfollowed := true, recurses := true, named := ["internal/bytealg.MaxLen"], apart := false }
def FnValidCausesSaid : Prop := fnValidCausesRow.holds Try.pinned (OpenSpec.ofChange fnValidCausesSpec)

/-- ITS FALSE NEIGHBOUR: 'it returns false'. Refute it at one input. -/
def fnValidCausesWrong : ChangeSpec := { name := "fnValidCauses", fn := fun _ => fun
  | [d] => { results := [.lit (.bool false)], args := [d] }
  | _ => none }
def FnValidCausesWrongFalsely : Prop := fnValidCausesRow.holds Try.pinned (OpenSpec.ofChange fnValidCausesWrong)

/-- 'laws.FnValidCovers': WHATEVER THE INPUT: true; the input reads as it did. -/
def fnValidCoversSpec : ChangeSpec := { name := "fnValidCovers", fn := fun _ => fun
  | [d] => { results := [.lit (.bool true)], args := [d] }
  | _ => none }
def fnValidCoversRow : OpenClaim := { program := "ytlnaejkbanpcjaa", sum := "0fdcf9fc4aad9224e251b503d780fa2c09617875e3b10b82bbdf897751b45c06", func := "loop.example/fixturehouse/laws.FnValidCovers", spec := "fnValidCovers", inPlace := ["internal/bytealg.IndexByteString", "internal/bytealg.IndexString"], named := ["internal/bytealg.MaxLen"], apart := false }
def FnValidCoversSaid : Prop := fnValidCoversRow.holds Try.pinned (OpenSpec.ofChange fnValidCoversSpec)

/-- ITS FALSE NEIGHBOUR: 'it returns false'. Refute it at one input. -/
def fnValidCoversWrong : ChangeSpec := { name := "fnValidCovers", fn := fun _ => fun
  | [d] => { results := [.lit (.bool false)], args := [d] }
  | _ => none }
def FnValidCoversWrongFalsely : Prop := fnValidCoversRow.holds Try.pinned (OpenSpec.ofChange fnValidCoversWrong)

/-- 'laws.FnExactValidCovers': WHATEVER THE INPUT: true; the input reads as it did. -/
def fnExactValidCoversSpec : ChangeSpec := { name := "fnExactValidCovers", fn := fun _ => fun
  | [d] => { results := [.lit (.bool true)], args := [d] }
  | _ => none }
def fnExactValidCoversRow : OpenClaim := { program := "ytlnaejkbanpcjaa", sum := "0fdcf9fc4aad9224e251b503d780fa2c09617875e3b10b82bbdf897751b45c06", func := "loop.example/fixturehouse/laws.FnExactValidCovers", spec := "fnExactValidCovers", inPlace := ["internal/bytealg.IndexByteString", "internal/bytealg.IndexString"], named := ["internal/bytealg.MaxLen"], apart := false }
def FnExactValidCoversSaid : Prop := fnExactValidCoversRow.holds Try.pinned (OpenSpec.ofChange fnExactValidCoversSpec)

/-- ITS FALSE NEIGHBOUR: 'it returns false'. Refute it at one input. -/
def fnExactValidCoversWrong : ChangeSpec := { name := "fnExactValidCovers", fn := fun _ => fun
  | [d] => { results := [.lit (.bool false)], args := [d] }
  | _ => none }
def FnExactValidCoversWrongFalsely : Prop := fnExactValidCoversRow.holds Try.pinned (OpenSpec.ofChange fnExactValidCoversWrong)

/-- 'laws.FnExactFailsWith': WHATEVER THE INPUT: true; the input reads as it did. -/
def fnExactFailsWithSpec : ChangeSpec := { name := "fnExactFailsWith", fn := fun _ => fun
  | [d1, d2] => { results := [.lit (.bool true)], args := [d1, d2] }
  | _ => none }
def fnExactFailsWithRow : OpenClaim := { program := "ytlnaejkbanpcjaa", sum := "0fdcf9fc4aad9224e251b503d780fa2c09617875e3b10b82bbdf897751b45c06", func := "loop.example/fixturehouse/laws.FnExactFailsWith", spec := "fnExactFailsWith", inPlace := ["internal/bytealg.IndexByteString", "internal/bytealg.IndexString"], unfollowed := true, recurses := true, named := ["internal/bytealg.MaxLen"], apart := false }
def FnExactFailsWithSaid : Prop := fnExactFailsWithRow.holds Try.pinned (OpenSpec.ofChange fnExactFailsWithSpec)

/-- ITS FALSE NEIGHBOUR: 'it returns false'. Refute it at one input. -/
def fnExactFailsWithWrong : ChangeSpec := { name := "fnExactFailsWith", fn := fun _ => fun
  | [d1, d2] => { results := [.lit (.bool false)], args := [d1, d2] }
  | _ => none }
def FnExactFailsWithWrongFalsely : Prop := fnExactFailsWithRow.holds Try.pinned (OpenSpec.ofChange fnExactFailsWithWrong)

/-- 'laws.FnExactIsLeast': WHATEVER THE INPUT: true; the input reads as it did. -/
def fnExactIsLeastSpec : ChangeSpec := { name := "fnExactIsLeast", fn := fun _ => fun
  | [d1, d2] => { results := [.lit (.bool true)], args := [d1, d2] }
  | _ => none }
def fnExactIsLeastRow : OpenClaim := { program := "ytlnaejkbanpcjaa", sum := "0fdcf9fc4aad9224e251b503d780fa2c09617875e3b10b82bbdf897751b45c06", func := "loop.example/fixturehouse/laws.FnExactIsLeast", spec := "fnExactIsLeast", inPlace := ["internal/bytealg.IndexByteString", "internal/bytealg.IndexString"], unfollowed := true, recurses := true, named := ["internal/bytealg.MaxLen"], apart := false }
def FnExactIsLeastSaid : Prop := fnExactIsLeastRow.holds Try.pinned (OpenSpec.ofChange fnExactIsLeastSpec)

/-- ITS FALSE NEIGHBOUR: 'it returns false'. Refute it at one input. -/
def fnExactIsLeastWrong : ChangeSpec := { name := "fnExactIsLeast", fn := fun _ => fun
  | [d1, d2] => { results := [.lit (.bool false)], args := [d1, d2] }
  | _ => none }
def FnExactIsLeastWrongFalsely : Prop := fnExactIsLeastRow.holds Try.pinned (OpenSpec.ofChange fnExactIsLeastWrong)

/-- 'laws.FnTouchedBy': WHATEVER THE INPUT: true; the input reads as it did. -/
def fnTouchedBySpec : ChangeSpec := { name := "fnTouchedBy", fn := fun _ => fun
  | [d] => { results := [.lit (.bool true)], args := [d] }
  | _ => none }
def fnTouchedByRow : OpenClaim := { program := "ytlnaejkbanpcjaa", sum := "0fdcf9fc4aad9224e251b503d780fa2c09617875e3b10b82bbdf897751b45c06", func := "loop.example/fixturehouse/laws.FnTouchedBy", spec := "fnTouchedBy", inPlace := ["internal/bytealg.IndexByteString", "internal/bytealg.IndexString"], unfollowed := true, recurses := true, named := ["internal/bytealg.MaxLen"], apart := false }
def FnTouchedBySaid : Prop := fnTouchedByRow.holds Try.pinned (OpenSpec.ofChange fnTouchedBySpec)

/-- ITS FALSE NEIGHBOUR: 'it returns false'. Refute it at one input. -/
def fnTouchedByWrong : ChangeSpec := { name := "fnTouchedBy", fn := fun _ => fun
  | [d] => { results := [.lit (.bool false)], args := [d] }
  | _ => none }
def FnTouchedByWrongFalsely : Prop := fnTouchedByRow.holds Try.pinned (OpenSpec.ofChange fnTouchedByWrong)

/- THE SECOND FORM. 'bulk': how many values and letters a reading holds, each counted each time it is reached (what is shared counts as often as it is met; a slice's spare places count too). A statement '..UptoSaid' is the law's where the arguments, and the package variables that the reading takes, are together of bulk at most 1048576: NARROWER than '..Said'. Prove '..Said' where nothing that the law and all that it calls make is longer than what came in: it says more and counts as full. Else prove '..UptoSaid'. A law counts once. -/
mutual
def uptoBulk {H : Type} : DataW H → Nat
  | .lit (.string bytes) => bytes.length + 1
  | .lit _ => 1
  | .nil => 1
  | .ptr d => uptoBulk d + 1
  | .slice elems spare => uptoBulkAll elems + uptoBulkAll spare + 1
  | .agg parts => uptoBulkAll parts + 1
  | .iface _ d => uptoBulk d + 1
  | .map entries => uptoBulkEntries entries + 1
  | .held _ => 1
def uptoBulkAll {H : Type} : List (DataW H) → Nat
  | [] => 0
  | d :: r => uptoBulk d + uptoBulkAll r
def uptoBulkEntries {H : Type} : List (Lit × DataW H) → Nat
  | [] => 0
  | x :: r => uptoBulkEntry x + uptoBulkEntries r
def uptoBulkEntry {H : Type} : Lit × DataW H → Nat
  | (.string bytes, d) => bytes.length + uptoBulk d + 1
  | (_, d) => uptoBulk d + 1
 end
def uptoSmall : (H : Type) → List (DataW H) → Bool := fun _ ds => decide (uptoBulkAll ds ≤ 1048576)
def OpenSpec.upto (s : _root_.Go.ChangeSpec) : _root_.Go.OpenSpec := { _root_.Go.OpenSpec.ofChange s with cond := some uptoSmall }

/-- 'laws.FnExactValidCauses', WHERE WHAT IT READS IS OF BULK AT MOST 1048576: true; the input reads as it did. -/
def fnExactValidCausesUptoRow : OpenClaim := { program := "ytlnaejkbanpcjaa", sum := "0fdcf9fc4aad9224e251b503d780fa2c09617875e3b10b82bbdf897751b45c06", func := "loop.example/fixturehouse/laws.FnExactValidCauses", spec := "fnExactValidCauses", inPlace := ["internal/bytealg.IndexByteString", "internal/bytealg.IndexString"], named := ["internal/bytealg.MaxLen"], apart := false, narrowed := true }
def FnExactValidCausesUptoSaid : Prop := fnExactValidCausesUptoRow.holds Try.pinned (OpenSpec.upto fnExactValidCausesSpec)

/-- 'laws.FnValidCauses', WHERE WHAT IT READS IS OF BULK AT MOST 1048576: true; the input reads as it did. -/
def fnValidCausesUptoRow : OpenClaim := { program := "ytlnaejkbanpcjaa", sum := "0fdcf9fc4aad9224e251b503d780fa2c09617875e3b10b82bbdf897751b45c06", func := "loop.example/fixturehouse/laws.FnValidCauses", spec := "fnValidCauses", inPlace := ["internal/bytealg.IndexByteString", "internal/bytealg.IndexString"], unfollowed := true, recurses := true, named := ["internal/bytealg.MaxLen"], apart := false, narrowed := true }
def FnValidCausesUptoSaid : Prop := fnValidCausesUptoRow.holds Try.pinned (OpenSpec.upto fnValidCausesSpec)

/-- 'laws.FnValidCovers', WHERE WHAT IT READS IS OF BULK AT MOST 1048576: true; the input reads as it did. -/
def fnValidCoversUptoRow : OpenClaim := { program := "ytlnaejkbanpcjaa", sum := "0fdcf9fc4aad9224e251b503d780fa2c09617875e3b10b82bbdf897751b45c06", func := "loop.example/fixturehouse/laws.FnValidCovers", spec := "fnValidCovers", inPlace := ["internal/bytealg.IndexByteString", "internal/bytealg.IndexString"], named := ["internal/bytealg.MaxLen"], apart := false, narrowed := true }
def FnValidCoversUptoSaid : Prop := fnValidCoversUptoRow.holds Try.pinned (OpenSpec.upto fnValidCoversSpec)

/-- 'laws.FnExactValidCovers', WHERE WHAT IT READS IS OF BULK AT MOST 1048576: true; the input reads as it did. -/
def fnExactValidCoversUptoRow : OpenClaim := { program := "ytlnaejkbanpcjaa", sum := "0fdcf9fc4aad9224e251b503d780fa2c09617875e3b10b82bbdf897751b45c06", func := "loop.example/fixturehouse/laws.FnExactValidCovers", spec := "fnExactValidCovers", inPlace := ["internal/bytealg.IndexByteString", "internal/bytealg.IndexString"], named := ["internal/bytealg.MaxLen"], apart := false, narrowed := true }
def FnExactValidCoversUptoSaid : Prop := fnExactValidCoversUptoRow.holds Try.pinned (OpenSpec.upto fnExactValidCoversSpec)

/-- 'laws.FnExactFailsWith', WHERE WHAT IT READS IS OF BULK AT MOST 1048576: true; the input reads as it did. -/
def fnExactFailsWithUptoRow : OpenClaim := { program := "ytlnaejkbanpcjaa", sum := "0fdcf9fc4aad9224e251b503d780fa2c09617875e3b10b82bbdf897751b45c06", func := "loop.example/fixturehouse/laws.FnExactFailsWith", spec := "fnExactFailsWith", inPlace := ["internal/bytealg.IndexByteString", "internal/bytealg.IndexString"], unfollowed := true, recurses := true, named := ["internal/bytealg.MaxLen"], apart := false, narrowed := true }
def FnExactFailsWithUptoSaid : Prop := fnExactFailsWithUptoRow.holds Try.pinned (OpenSpec.upto fnExactFailsWithSpec)

/-- 'laws.FnExactIsLeast', WHERE WHAT IT READS IS OF BULK AT MOST 1048576: true; the input reads as it did. -/
def fnExactIsLeastUptoRow : OpenClaim := { program := "ytlnaejkbanpcjaa", sum := "0fdcf9fc4aad9224e251b503d780fa2c09617875e3b10b82bbdf897751b45c06", func := "loop.example/fixturehouse/laws.FnExactIsLeast", spec := "fnExactIsLeast", inPlace := ["internal/bytealg.IndexByteString", "internal/bytealg.IndexString"], unfollowed := true, recurses := true, named := ["internal/bytealg.MaxLen"], apart := false, narrowed := true }
def FnExactIsLeastUptoSaid : Prop := fnExactIsLeastUptoRow.holds Try.pinned (OpenSpec.upto fnExactIsLeastSpec)

/-- 'laws.FnTouchedBy', WHERE WHAT IT READS IS OF BULK AT MOST 1048576: true; the input reads as it did. -/
def fnTouchedByUptoRow : OpenClaim := { program := "ytlnaejkbanpcjaa", sum := "0fdcf9fc4aad9224e251b503d780fa2c09617875e3b10b82bbdf897751b45c06", func := "loop.example/fixturehouse/laws.FnTouchedBy", spec := "fnTouchedBy", inPlace := ["internal/bytealg.IndexByteString", "internal/bytealg.IndexString"], unfollowed := true, recurses := true, named := ["internal/bytealg.MaxLen"], apart := false, narrowed := true }
def FnTouchedByUptoSaid : Prop := fnTouchedByUptoRow.holds Try.pinned (OpenSpec.upto fnTouchedBySpec)

end Rows
end Go.Proofs.Ytlnaejkbanpcjaa
