/-
  No cell of these rows narrows 'for every input' (looked for: loops, veiled, ifaces, maps, wideKeys, modest, calm, conditions, laid).
  DERIVED. THE GIVEN ROWS OF THIS SEAT. 4 by the template 'for every input the law returns true; each argument reads behind the call as it read before'; 0 by the template 'total and deterministic' (their statements: YtadhfpbkanobnaaTotals.lean).
  GIVEN WITH THE SEED: the statements are not yours to turn. If you find one false, say at which input.
  Laid BY PROGRAM, IN A SANDBOX (cutbox-rows.mjs): the forced cells as the released guide's own fill.sh prints them over the translation 58281708c342ab70… (all of the seat's roots in one cut). By AI agents, Wed Nov 11 2026. No macro, syntax, notation, axiom, sorry.
-/
import Derived.Test.YtadhfpbkanobnaaChecked
import GoSem.Claim
import GoSem.ClaimJoined
import GoSem.ClaimMapViews
import Derived.JoinedTies
import Derived.KernelRfl
namespace Go.Proofs.Ytadhfpbkanobnaa
/- THE CELL 'sum', in the pinned program and in every row, IS THE sha256 OF THE DUMP (.gsa) THAT YtadhfpbkanobnaaProg.lean LOADS. Nothing in Lean hashes anything: it is a label: what it is worth is what the hold of that sum in a sandbox is worth. -/
noncomputable def Try.pinned : Pinned := { name := "ytadhfpbkanobnaa", sum := "58281708c342ab70419ffd670ecd238bbb406da541737716d28fec7f54ac015e", checked := Try.checked }
namespace Rows
def none {H : Type} : Left H := { results := [], args := [] }

/-- 'laws.FnFindTest': WHATEVER THE INPUT: true; the input reads as it did. -/
def fnFindTestSpec : ChangeSpec := { name := "fnFindTest", fn := fun _ => fun
  | [d] => { results := [.lit (.bool true)], args := [d] }
  | _ => none }
def fnFindTestRow : OpenClaim := { program := "ytadhfpbkanobnaa", sum := "58281708c342ab70419ffd670ecd238bbb406da541737716d28fec7f54ac015e", func := "loop.example/fixturehouse/laws.FnFindTest", spec := "fnFindTest", unfollowed := true, recurses := true, apart := false }
def FnFindTestSaid : Prop := fnFindTestRow.holds Try.pinned (OpenSpec.ofChange fnFindTestSpec)

/-- ITS FALSE NEIGHBOUR: 'it returns false'. Refute it at one input. -/
def fnFindTestWrong : ChangeSpec := { name := "fnFindTest", fn := fun _ => fun
  | [d] => { results := [.lit (.bool false)], args := [d] }
  | _ => none }
def FnFindTestWrongFalsely : Prop := fnFindTestRow.holds Try.pinned (OpenSpec.ofChange fnFindTestWrong)

/-- 'laws.FnExactIdsOf': WHATEVER THE INPUT: true; the input reads as it did. -/
def fnExactIdsOfSpec : ChangeSpec := { name := "fnExactIdsOf", fn := fun _ => fun
  | [d] => { results := [.lit (.bool true)], args := [d] }
  | _ => none }
def fnExactIdsOfRow : OpenClaim := { program := "ytadhfpbkanobnaa", sum := "58281708c342ab70419ffd670ecd238bbb406da541737716d28fec7f54ac015e", func := "loop.example/fixturehouse/laws.FnExactIdsOf", spec := "fnExactIdsOf", apart := false }
def FnExactIdsOfSaid : Prop := fnExactIdsOfRow.holds Try.pinned (OpenSpec.ofChange fnExactIdsOfSpec)

/-- ITS FALSE NEIGHBOUR: 'it returns false'. Refute it at one input. -/
def fnExactIdsOfWrong : ChangeSpec := { name := "fnExactIdsOf", fn := fun _ => fun
  | [d] => { results := [.lit (.bool false)], args := [d] }
  | _ => none }
def FnExactIdsOfWrongFalsely : Prop := fnExactIdsOfRow.holds Try.pinned (OpenSpec.ofChange fnExactIdsOfWrong)

/-- 'laws.FnExactModulesOf': WHATEVER THE INPUT: true; the input reads as it did. -/
def fnExactModulesOfSpec : ChangeSpec := { name := "fnExactModulesOf", fn := fun _ => fun
  | [d] => { results := [.lit (.bool true)], args := [d] }
  | _ => none }
def fnExactModulesOfRow : OpenClaim := { program := "ytadhfpbkanobnaa", sum := "58281708c342ab70419ffd670ecd238bbb406da541737716d28fec7f54ac015e", func := "loop.example/fixturehouse/laws.FnExactModulesOf", spec := "fnExactModulesOf", apart := false }
def FnExactModulesOfSaid : Prop := fnExactModulesOfRow.holds Try.pinned (OpenSpec.ofChange fnExactModulesOfSpec)

/-- ITS FALSE NEIGHBOUR: 'it returns false'. Refute it at one input. -/
def fnExactModulesOfWrong : ChangeSpec := { name := "fnExactModulesOf", fn := fun _ => fun
  | [d] => { results := [.lit (.bool false)], args := [d] }
  | _ => none }
def FnExactModulesOfWrongFalsely : Prop := fnExactModulesOfRow.holds Try.pinned (OpenSpec.ofChange fnExactModulesOfWrong)

/-- 'laws.FnExactGroupModules': WHATEVER THE INPUT: true; the input reads as it did. -/
def fnExactGroupModulesSpec : ChangeSpec := { name := "fnExactGroupModules", fn := fun _ => fun
  | [d] => { results := [.lit (.bool true)], args := [d] }
  | _ => none }
def fnExactGroupModulesRow : OpenClaim := { program := "ytadhfpbkanobnaa", sum := "58281708c342ab70419ffd670ecd238bbb406da541737716d28fec7f54ac015e", func := "loop.example/fixturehouse/laws.FnExactGroupModules", spec := "fnExactGroupModules", apart := false }
def FnExactGroupModulesSaid : Prop := fnExactGroupModulesRow.holds Try.pinned (OpenSpec.ofChange fnExactGroupModulesSpec)

/-- ITS FALSE NEIGHBOUR: 'it returns false'. Refute it at one input. -/
def fnExactGroupModulesWrong : ChangeSpec := { name := "fnExactGroupModules", fn := fun _ => fun
  | [d] => { results := [.lit (.bool false)], args := [d] }
  | _ => none }
def FnExactGroupModulesWrongFalsely : Prop := fnExactGroupModulesRow.holds Try.pinned (OpenSpec.ofChange fnExactGroupModulesWrong)

/- THE SECOND FORM. 'bulk': how many values and letters a reading holds, each counted each time it is reached (what is shared counts as often as it is met; a slice's spare places count too). A statement '..UptoSaid' is the law's where the arguments, and the package variables that the reading takes, are together of bulk at most 1048576: NARROWER than '..Said'. Prove '..Said' where nothing that the law and all that it calls make is longer than what came in: it says more and counts as full. Else prove '..UptoSaid'. A law counts once. -/
mutual
def uptoBulk {H : Type} : DataW H → Nat
  | .lit (.string bytes) => bytes.length + 1
  | .lit _ => 1
  | .nil => 1
  | .ptr d => uptoBulk d + 1
  | .slice elems spare => uptoBulkAll elems + uptoBulkAll spare + 1
  | .agg parts => uptoBulkAll parts + 1
  | .iface _ d => uptoBulk d + 1
  | .map entries => uptoBulkEntries entries + 1
  | .held _ => 1
def uptoBulkAll {H : Type} : List (DataW H) → Nat
  | [] => 0
  | d :: r => uptoBulk d + uptoBulkAll r
def uptoBulkEntries {H : Type} : List (Lit × DataW H) → Nat
  | [] => 0
  | x :: r => uptoBulkEntry x + uptoBulkEntries r
def uptoBulkEntry {H : Type} : Lit × DataW H → Nat
  | (.string bytes, d) => bytes.length + uptoBulk d + 1
  | (_, d) => uptoBulk d + 1
 end
def uptoSmall : (H : Type) → List (DataW H) → Bool := fun _ ds => decide (uptoBulkAll ds ≤ 1048576)
def OpenSpec.upto (s : _root_.Go.ChangeSpec) : _root_.Go.OpenSpec := { _root_.Go.OpenSpec.ofChange s with cond := some uptoSmall }

/-- 'laws.FnFindTest', WHERE WHAT IT READS IS OF BULK AT MOST 1048576: true; the input reads as it did. -/
def fnFindTestUptoRow : OpenClaim := { program := "ytadhfpbkanobnaa", sum := "58281708c342ab70419ffd670ecd238bbb406da541737716d28fec7f54ac015e", func := "loop.example/fixturehouse/laws.FnFindTest", spec := "fnFindTest", unfollowed := true, recurses := true, apart := false, narrowed := true }
def FnFindTestUptoSaid : Prop := fnFindTestUptoRow.holds Try.pinned (OpenSpec.upto fnFindTestSpec)

/-- 'laws.FnExactIdsOf', WHERE WHAT IT READS IS OF BULK AT MOST 1048576: true; the input reads as it did. -/
def fnExactIdsOfUptoRow : OpenClaim := { program := "ytadhfpbkanobnaa", sum := "58281708c342ab70419ffd670ecd238bbb406da541737716d28fec7f54ac015e", func := "loop.example/fixturehouse/laws.FnExactIdsOf", spec := "fnExactIdsOf", apart := false, narrowed := true }
def FnExactIdsOfUptoSaid : Prop := fnExactIdsOfUptoRow.holds Try.pinned (OpenSpec.upto fnExactIdsOfSpec)

/-- 'laws.FnExactModulesOf', WHERE WHAT IT READS IS OF BULK AT MOST 1048576: true; the input reads as it did. -/
def fnExactModulesOfUptoRow : OpenClaim := { program := "ytadhfpbkanobnaa", sum := "58281708c342ab70419ffd670ecd238bbb406da541737716d28fec7f54ac015e", func := "loop.example/fixturehouse/laws.FnExactModulesOf", spec := "fnExactModulesOf", apart := false, narrowed := true }
def FnExactModulesOfUptoSaid : Prop := fnExactModulesOfUptoRow.holds Try.pinned (OpenSpec.upto fnExactModulesOfSpec)

/-- 'laws.FnExactGroupModules', WHERE WHAT IT READS IS OF BULK AT MOST 1048576: true; the input reads as it did. -/
def fnExactGroupModulesUptoRow : OpenClaim := { program := "ytadhfpbkanobnaa", sum := "58281708c342ab70419ffd670ecd238bbb406da541737716d28fec7f54ac015e", func := "loop.example/fixturehouse/laws.FnExactGroupModules", spec := "fnExactGroupModules", apart := false, narrowed := true }
def FnExactGroupModulesUptoSaid : Prop := fnExactGroupModulesUptoRow.holds Try.pinned (OpenSpec.upto fnExactGroupModulesSpec)

end Rows
end Go.Proofs.Ytadhfpbkanobnaa
