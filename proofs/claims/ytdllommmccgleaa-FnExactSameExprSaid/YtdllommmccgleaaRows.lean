/-
  No cell of these rows narrows 'for every input' (looked for: loops, veiled, ifaces, maps, wideKeys, modest, calm, conditions, laid).
  DERIVED. THE GIVEN ROWS OF THIS SEAT. 8 by the template 'for every input the law returns true; each argument reads behind the call as it read before'; 0 by the template 'total and deterministic' (their statements: YtdllommmccgleaaTotals.lean).
  GIVEN WITH THE SEED: the statements are not yours to turn. If you find one false, say at which input.
  Laid BY PROGRAM, IN A SANDBOX (cutbox-rows.mjs): the forced cells as the released guide's own fill.sh prints them over the translation 1ae8cd4c8a0b75d7… (all of the seat's roots in one cut). By AI agents, Wed Nov 11 2026. No macro, syntax, notation, axiom, sorry.
-/
import Derived.Test.YtdllommmccgleaaChecked
import GoSem.Claim
import GoSem.ClaimJoined
import GoSem.ClaimMapViews
import Derived.JoinedTies
import Derived.KernelRfl
namespace Go.Proofs.Ytdllommmccgleaa
/- THE CELL 'sum', in the pinned program and in every row, IS THE sha256 OF THE DUMP (.gsa) THAT YtdllommmccgleaaProg.lean LOADS. Nothing in Lean hashes anything: it is a label: what it is worth is what the hold of that sum in a sandbox is worth. -/
noncomputable def Try.pinned : Pinned := { name := "ytdllommmccgleaa", sum := "1ae8cd4c8a0b75d75fa6024e1201c896c73b10acbf6d6e8849b7874167f8e403", checked := Try.checked }
namespace Rows
def none {H : Type} : Left H := { results := [], args := [] }

/-- 'laws.FnExactSameExpr': WHATEVER THE INPUT: true; the input reads as it did. -/
def fnExactSameExprSpec : ChangeSpec := { name := "fnExactSameExpr", fn := fun _ => fun
  | [d1, d2] => { results := [.lit (.bool true)], args := [d1, d2] }
  | _ => none }
def fnExactSameExprRow : OpenClaim := { program := "ytdllommmccgleaa", sum := "1ae8cd4c8a0b75d75fa6024e1201c896c73b10acbf6d6e8849b7874167f8e403", func := "loop.example/fixturehouse/laws.FnExactSameExpr", spec := "fnExactSameExpr", unfollowed := true, recurses := true, apart := false }
def FnExactSameExprSaid : Prop := fnExactSameExprRow.holds Try.pinned (OpenSpec.ofChange fnExactSameExprSpec)

/-- ITS FALSE NEIGHBOUR: 'it returns false'. Refute it at one input. -/
def fnExactSameExprWrong : ChangeSpec := { name := "fnExactSameExpr", fn := fun _ => fun
  | [d1, d2] => { results := [.lit (.bool false)], args := [d1, d2] }
  | _ => none }
def FnExactSameExprWrongFalsely : Prop := fnExactSameExprRow.holds Try.pinned (OpenSpec.ofChange fnExactSameExprWrong)

/-- 'laws.FnExactMatches': WHATEVER THE INPUT: true; the input reads as it did. -/
def fnExactMatchesSpec : ChangeSpec := { name := "fnExactMatches", fn := fun _ => fun
  | [d1, d2] => { results := [.lit (.bool true)], args := [d1, d2] }
  | _ => none }
def fnExactMatchesRow : OpenClaim := { program := "ytdllommmccgleaa", sum := "1ae8cd4c8a0b75d75fa6024e1201c896c73b10acbf6d6e8849b7874167f8e403", func := "loop.example/fixturehouse/laws.FnExactMatches", spec := "fnExactMatches", unfollowed := true, recurses := true, apart := false }
def FnExactMatchesSaid : Prop := fnExactMatchesRow.holds Try.pinned (OpenSpec.ofChange fnExactMatchesSpec)

/-- ITS FALSE NEIGHBOUR: 'it returns false'. Refute it at one input. -/
def fnExactMatchesWrong : ChangeSpec := { name := "fnExactMatches", fn := fun _ => fun
  | [d1, d2] => { results := [.lit (.bool false)], args := [d1, d2] }
  | _ => none }
def FnExactMatchesWrongFalsely : Prop := fnExactMatchesRow.holds Try.pinned (OpenSpec.ofChange fnExactMatchesWrong)

/-- 'laws.FnValidExpr': WHATEVER THE INPUT: true; the input reads as it did. -/
def fnValidExprSpec : ChangeSpec := { name := "fnValidExpr", fn := fun _ => fun
  | [d] => { results := [.lit (.bool true)], args := [d] }
  | _ => none }
def fnValidExprRow : OpenClaim := { program := "ytdllommmccgleaa", sum := "1ae8cd4c8a0b75d75fa6024e1201c896c73b10acbf6d6e8849b7874167f8e403", func := "loop.example/fixturehouse/laws.FnValidExpr", spec := "fnValidExpr", unfollowed := true, recurses := true, apart := false }
def FnValidExprSaid : Prop := fnValidExprRow.holds Try.pinned (OpenSpec.ofChange fnValidExprSpec)

/-- ITS FALSE NEIGHBOUR: 'it returns false'. Refute it at one input. -/
def fnValidExprWrong : ChangeSpec := { name := "fnValidExpr", fn := fun _ => fun
  | [d] => { results := [.lit (.bool false)], args := [d] }
  | _ => none }
def FnValidExprWrongFalsely : Prop := fnValidExprRow.holds Try.pinned (OpenSpec.ofChange fnValidExprWrong)

/-- 'laws.FnNotExpr': WHATEVER THE INPUT: true; the input reads as it did. -/
def fnNotExprSpec : ChangeSpec := { name := "fnNotExpr", fn := fun _ => fun
  | [d] => { results := [.lit (.bool true)], args := [d] }
  | _ => none }
def fnNotExprRow : OpenClaim := { program := "ytdllommmccgleaa", sum := "1ae8cd4c8a0b75d75fa6024e1201c896c73b10acbf6d6e8849b7874167f8e403", func := "loop.example/fixturehouse/laws.FnNotExpr", spec := "fnNotExpr", unfollowed := true, recurses := true, apart := false }
def FnNotExprSaid : Prop := fnNotExprRow.holds Try.pinned (OpenSpec.ofChange fnNotExprSpec)

/-- ITS FALSE NEIGHBOUR: 'it returns false'. Refute it at one input. -/
def fnNotExprWrong : ChangeSpec := { name := "fnNotExpr", fn := fun _ => fun
  | [d] => { results := [.lit (.bool false)], args := [d] }
  | _ => none }
def FnNotExprWrongFalsely : Prop := fnNotExprRow.holds Try.pinned (OpenSpec.ofChange fnNotExprWrong)

/-- 'laws.FnOrExpr': WHATEVER THE INPUT: true; the input reads as it did. -/
def fnOrExprSpec : ChangeSpec := { name := "fnOrExpr", fn := fun _ => fun
  | [d] => { results := [.lit (.bool true)], args := [d] }
  | _ => none }
def fnOrExprRow : OpenClaim := { program := "ytdllommmccgleaa", sum := "1ae8cd4c8a0b75d75fa6024e1201c896c73b10acbf6d6e8849b7874167f8e403", func := "loop.example/fixturehouse/laws.FnOrExpr", spec := "fnOrExpr", unfollowed := true, recurses := true, apart := false }
def FnOrExprSaid : Prop := fnOrExprRow.holds Try.pinned (OpenSpec.ofChange fnOrExprSpec)

/-- ITS FALSE NEIGHBOUR: 'it returns false'. Refute it at one input. -/
def fnOrExprWrong : ChangeSpec := { name := "fnOrExpr", fn := fun _ => fun
  | [d] => { results := [.lit (.bool false)], args := [d] }
  | _ => none }
def FnOrExprWrongFalsely : Prop := fnOrExprRow.holds Try.pinned (OpenSpec.ofChange fnOrExprWrong)

/-- 'laws.FnAndExpr': WHATEVER THE INPUT: true; the input reads as it did. -/
def fnAndExprSpec : ChangeSpec := { name := "fnAndExpr", fn := fun _ => fun
  | [d] => { results := [.lit (.bool true)], args := [d] }
  | _ => none }
def fnAndExprRow : OpenClaim := { program := "ytdllommmccgleaa", sum := "1ae8cd4c8a0b75d75fa6024e1201c896c73b10acbf6d6e8849b7874167f8e403", func := "loop.example/fixturehouse/laws.FnAndExpr", spec := "fnAndExpr", unfollowed := true, recurses := true, apart := false }
def FnAndExprSaid : Prop := fnAndExprRow.holds Try.pinned (OpenSpec.ofChange fnAndExprSpec)

/-- ITS FALSE NEIGHBOUR: 'it returns false'. Refute it at one input. -/
def fnAndExprWrong : ChangeSpec := { name := "fnAndExpr", fn := fun _ => fun
  | [d] => { results := [.lit (.bool false)], args := [d] }
  | _ => none }
def FnAndExprWrongFalsely : Prop := fnAndExprRow.holds Try.pinned (OpenSpec.ofChange fnAndExprWrong)

/-- 'laws.FnAtomsOf': WHATEVER THE INPUT: true; the input reads as it did. -/
def fnAtomsOfSpec : ChangeSpec := { name := "fnAtomsOf", fn := fun _ => fun
  | [d] => { results := [.lit (.bool true)], args := [d] }
  | _ => none }
def fnAtomsOfRow : OpenClaim := { program := "ytdllommmccgleaa", sum := "1ae8cd4c8a0b75d75fa6024e1201c896c73b10acbf6d6e8849b7874167f8e403", func := "loop.example/fixturehouse/laws.FnAtomsOf", spec := "fnAtomsOf", unfollowed := true, recurses := true, apart := false }
def FnAtomsOfSaid : Prop := fnAtomsOfRow.holds Try.pinned (OpenSpec.ofChange fnAtomsOfSpec)

/-- ITS FALSE NEIGHBOUR: 'it returns false'. Refute it at one input. -/
def fnAtomsOfWrong : ChangeSpec := { name := "fnAtomsOf", fn := fun _ => fun
  | [d] => { results := [.lit (.bool false)], args := [d] }
  | _ => none }
def FnAtomsOfWrongFalsely : Prop := fnAtomsOfRow.holds Try.pinned (OpenSpec.ofChange fnAtomsOfWrong)

/-- 'laws.FnModulesOf': WHATEVER THE INPUT: true; the input reads as it did. -/
def fnModulesOfSpec : ChangeSpec := { name := "fnModulesOf", fn := fun _ => fun
  | [d] => { results := [.lit (.bool true)], args := [d] }
  | _ => none }
def fnModulesOfRow : OpenClaim := { program := "ytdllommmccgleaa", sum := "1ae8cd4c8a0b75d75fa6024e1201c896c73b10acbf6d6e8849b7874167f8e403", func := "loop.example/fixturehouse/laws.FnModulesOf", spec := "fnModulesOf", unfollowed := true, recurses := true, apart := false }
def FnModulesOfSaid : Prop := fnModulesOfRow.holds Try.pinned (OpenSpec.ofChange fnModulesOfSpec)

/-- ITS FALSE NEIGHBOUR: 'it returns false'. Refute it at one input. -/
def fnModulesOfWrong : ChangeSpec := { name := "fnModulesOf", fn := fun _ => fun
  | [d] => { results := [.lit (.bool false)], args := [d] }
  | _ => none }
def FnModulesOfWrongFalsely : Prop := fnModulesOfRow.holds Try.pinned (OpenSpec.ofChange fnModulesOfWrong)

/- THE SECOND FORM. 'bulk': how many values and letters a reading holds, each counted each time it is reached (what is shared counts as often as it is met; a slice's spare places count too). A statement '..UptoSaid' is the law's where the arguments, and the package variables that the reading takes, are together of bulk at most 1048576: NARROWER than '..Said'. Prove '..Said' where nothing that the law and all that it calls make is longer than what came in: it says more and counts as full. Else prove '..UptoSaid'. A law counts once. -/
mutual
def uptoBulk {H : Type} : DataW H → Nat
  | .lit (.string bytes) => bytes.length + 1
  | .lit _ => 1
  | .nil => 1
  | .ptr d => uptoBulk d + 1
  | .slice elems spare => uptoBulkAll elems + uptoBulkAll spare + 1
  | .agg parts => uptoBulkAll parts + 1
  | .iface _ d => uptoBulk d + 1
  | .map entries => uptoBulkEntries entries + 1
  | .held _ => 1
def uptoBulkAll {H : Type} : List (DataW H) → Nat
  | [] => 0
  | d :: r => uptoBulk d + uptoBulkAll r
def uptoBulkEntries {H : Type} : List (Lit × DataW H) → Nat
  | [] => 0
  | x :: r => uptoBulkEntry x + uptoBulkEntries r
def uptoBulkEntry {H : Type} : Lit × DataW H → Nat
  | (.string bytes, d) => bytes.length + uptoBulk d + 1
  | (_, d) => uptoBulk d + 1
 end
def uptoSmall : (H : Type) → List (DataW H) → Bool := fun _ ds => decide (uptoBulkAll ds ≤ 1048576)
def OpenSpec.upto (s : _root_.Go.ChangeSpec) : _root_.Go.OpenSpec := { _root_.Go.OpenSpec.ofChange s with cond := some uptoSmall }

/-- 'laws.FnExactSameExpr', WHERE WHAT IT READS IS OF BULK AT MOST 1048576: true; the input reads as it did. -/
def fnExactSameExprUptoRow : OpenClaim := { program := "ytdllommmccgleaa", sum := "1ae8cd4c8a0b75d75fa6024e1201c896c73b10acbf6d6e8849b7874167f8e403", func := "loop.example/fixturehouse/laws.FnExactSameExpr", spec := "fnExactSameExpr", unfollowed := true, recurses := true, apart := false, narrowed := true }
def FnExactSameExprUptoSaid : Prop := fnExactSameExprUptoRow.holds Try.pinned (OpenSpec.upto fnExactSameExprSpec)

/-- 'laws.FnExactMatches', WHERE WHAT IT READS IS OF BULK AT MOST 1048576: true; the input reads as it did. -/
def fnExactMatchesUptoRow : OpenClaim := { program := "ytdllommmccgleaa", sum := "1ae8cd4c8a0b75d75fa6024e1201c896c73b10acbf6d6e8849b7874167f8e403", func := "loop.example/fixturehouse/laws.FnExactMatches", spec := "fnExactMatches", unfollowed := true, recurses := true, apart := false, narrowed := true }
def FnExactMatchesUptoSaid : Prop := fnExactMatchesUptoRow.holds Try.pinned (OpenSpec.upto fnExactMatchesSpec)

/-- 'laws.FnValidExpr', WHERE WHAT IT READS IS OF BULK AT MOST 1048576: true; the input reads as it did. -/
def fnValidExprUptoRow : OpenClaim := { program := "ytdllommmccgleaa", sum := "1ae8cd4c8a0b75d75fa6024e1201c896c73b10acbf6d6e8849b7874167f8e403", func := "loop.example/fixturehouse/laws.FnValidExpr", spec := "fnValidExpr", unfollowed := true, recurses := true, apart := false, narrowed := true }
def FnValidExprUptoSaid : Prop := fnValidExprUptoRow.holds Try.pinned (OpenSpec.upto fnValidExprSpec)

/-- 'laws.FnNotExpr', WHERE WHAT IT READS IS OF BULK AT MOST 1048576: true; the input reads as it did. -/
def fnNotExprUptoRow : OpenClaim := { program := "ytdllommmccgleaa", sum := "1ae8cd4c8a0b75d75fa6024e1201c896c73b10acbf6d6e8849b7874167f8e403", func := "loop.example/fixturehouse/laws.FnNotExpr", spec := "fnNotExpr", unfollowed := true, recurses := true, apart := false, narrowed := true }
def FnNotExprUptoSaid : Prop := fnNotExprUptoRow.holds Try.pinned (OpenSpec.upto fnNotExprSpec)

/-- 'laws.FnOrExpr', WHERE WHAT IT READS IS OF BULK AT MOST 1048576: true; the input reads as it did. -/
def fnOrExprUptoRow : OpenClaim := { program := "ytdllommmccgleaa", sum := "1ae8cd4c8a0b75d75fa6024e1201c896c73b10acbf6d6e8849b7874167f8e403", func := "loop.example/fixturehouse/laws.FnOrExpr", spec := "fnOrExpr", unfollowed := true, recurses := true, apart := false, narrowed := true }
def FnOrExprUptoSaid : Prop := fnOrExprUptoRow.holds Try.pinned (OpenSpec.upto fnOrExprSpec)

/-- 'laws.FnAndExpr', WHERE WHAT IT READS IS OF BULK AT MOST 1048576: true; the input reads as it did. -/
def fnAndExprUptoRow : OpenClaim := { program := "ytdllommmccgleaa", sum := "1ae8cd4c8a0b75d75fa6024e1201c896c73b10acbf6d6e8849b7874167f8e403", func := "loop.example/fixturehouse/laws.FnAndExpr", spec := "fnAndExpr", unfollowed := true, recurses := true, apart := false, narrowed := true }
def FnAndExprUptoSaid : Prop := fnAndExprUptoRow.holds Try.pinned (OpenSpec.upto fnAndExprSpec)

/-- 'laws.FnAtomsOf', WHERE WHAT IT READS IS OF BULK AT MOST 1048576: true; the input reads as it did. -/
def fnAtomsOfUptoRow : OpenClaim := { program := "ytdllommmccgleaa", sum := "1ae8cd4c8a0b75d75fa6024e1201c896c73b10acbf6d6e8849b7874167f8e403", func := "loop.example/fixturehouse/laws.FnAtomsOf", spec := "fnAtomsOf", unfollowed := true, recurses := true, apart := false, narrowed := true }
def FnAtomsOfUptoSaid : Prop := fnAtomsOfUptoRow.holds Try.pinned (OpenSpec.upto fnAtomsOfSpec)

/-- 'laws.FnModulesOf', WHERE WHAT IT READS IS OF BULK AT MOST 1048576: true; the input reads as it did. -/
def fnModulesOfUptoRow : OpenClaim := { program := "ytdllommmccgleaa", sum := "1ae8cd4c8a0b75d75fa6024e1201c896c73b10acbf6d6e8849b7874167f8e403", func := "loop.example/fixturehouse/laws.FnModulesOf", spec := "fnModulesOf", unfollowed := true, recurses := true, apart := false, narrowed := true }
def FnModulesOfUptoSaid : Prop := fnModulesOfUptoRow.holds Try.pinned (OpenSpec.upto fnModulesOfSpec)

end Rows
end Go.Proofs.Ytdllommmccgleaa
