/-
  No cell of these rows narrows 'for every input' (looked for: loops, veiled, ifaces, maps, wideKeys, modest, calm, conditions, laid).
  DERIVED. THE GIVEN ROWS OF THIS SEAT. 12 by the template 'for every input the law returns true; each argument reads behind the call as it read before'; 0 by the template 'total and deterministic' (their statements: YtphjcoondlhefaaTotals.lean).
  GIVEN WITH THE SEED: the statements are not yours to turn. If you find one false, say at which input.
  Laid BY PROGRAM, IN A SANDBOX (cutbox-rows.mjs): the forced cells as the released guide's own fill.sh prints them over the translation edb9f6e17bd59308… (all of the seat's roots in one cut). By AI agents, Wed Nov 11 2026. No macro, syntax, notation, axiom, sorry.
-/
import Derived.Test.YtphjcoondlhefaaChecked
import GoSem.Claim
import GoSem.ClaimJoined
import GoSem.ClaimMapViews
import Derived.JoinedTies
import Derived.KernelRfl
namespace Go.Proofs.Ytphjcoondlhefaa
/- THE CELL 'sum', in the pinned program and in every row, IS THE sha256 OF THE DUMP (.gsa) THAT YtphjcoondlhefaaProg.lean LOADS. Nothing in Lean hashes anything: it is a label: what it is worth is what the hold of that sum in a sandbox is worth. -/
noncomputable def Try.pinned : Pinned := { name := "ytphjcoondlhefaa", sum := "edb9f6e17bd593080a39afa111b4a866029288f26fe70463efd575381bfb2c89", checked := Try.checked }
namespace Rows
def none {H : Type} : Left H := { results := [], args := [] }

/-- 'laws.FnValidPast': WHATEVER THE INPUT: true; the input reads as it did. -/
def fnValidPastSpec : ChangeSpec := { name := "fnValidPast", fn := fun _ => fun
  | [d] => { results := [.lit (.bool true)], args := [d] }
  | _ => none }
def fnValidPastRow : OpenClaim := { program := "ytphjcoondlhefaa", sum := "edb9f6e17bd593080a39afa111b4a866029288f26fe70463efd575381bfb2c89", func := "loop.example/fixturehouse/laws.FnValidPast", spec := "fnValidPast", inPlace := ["internal/bytealg.IndexByteString", "internal/bytealg.IndexString"], named := ["internal/bytealg.MaxLen"], apart := false }
def FnValidPastSaid : Prop := fnValidPastRow.holds Try.pinned (OpenSpec.ofChange fnValidPastSpec)

/-- ITS FALSE NEIGHBOUR: 'it returns false'. Refute it at one input. -/
def fnValidPastWrong : ChangeSpec := { name := "fnValidPast", fn := fun _ => fun
  | [d] => { results := [.lit (.bool false)], args := [d] }
  | _ => none }
def FnValidPastWrongFalsely : Prop := fnValidPastRow.holds Try.pinned (OpenSpec.ofChange fnValidPastWrong)

/-- 'laws.FnExactValidPast': WHATEVER THE INPUT: true; the input reads as it did. -/
def fnExactValidPastSpec : ChangeSpec := { name := "fnExactValidPast", fn := fun _ => fun
  | [d] => { results := [.lit (.bool true)], args := [d] }
  | _ => none }
def fnExactValidPastRow : OpenClaim := { program := "ytphjcoondlhefaa", sum := "edb9f6e17bd593080a39afa111b4a866029288f26fe70463efd575381bfb2c89", func := "loop.example/fixturehouse/laws.FnExactValidPast", spec := "fnExactValidPast", inPlace := ["internal/bytealg.IndexByteString", "internal/bytealg.IndexString"], named := ["internal/bytealg.MaxLen"], apart := false }
def FnExactValidPastSaid : Prop := fnExactValidPastRow.holds Try.pinned (OpenSpec.ofChange fnExactValidPastSpec)

/-- ITS FALSE NEIGHBOUR: 'it returns false'. Refute it at one input. -/
def fnExactValidPastWrong : ChangeSpec := { name := "fnExactValidPast", fn := fun _ => fun
  | [d] => { results := [.lit (.bool false)], args := [d] }
  | _ => none }
def FnExactValidPastWrongFalsely : Prop := fnExactValidPastRow.holds Try.pinned (OpenSpec.ofChange fnExactValidPastWrong)

/-- 'laws.FnExactNewFirst': WHATEVER THE INPUT: true; the input reads as it did. -/
def fnExactNewFirstSpec : ChangeSpec := { name := "fnExactNewFirst", fn := fun _ => fun
  | [d1, d2] => { results := [.lit (.bool true)], args := [d1, d2] }
  | _ => none }
def fnExactNewFirstRow : OpenClaim := { program := "ytphjcoondlhefaa", sum := "edb9f6e17bd593080a39afa111b4a866029288f26fe70463efd575381bfb2c89", func := "loop.example/fixturehouse/laws.FnExactNewFirst", spec := "fnExactNewFirst", inPlace := ["internal/bytealg.IndexByteString", "internal/bytealg.IndexString"], unfollowed := true, recurses := true, named := ["internal/bytealg.MaxLen"], apart := false }
def FnExactNewFirstSaid : Prop := fnExactNewFirstRow.holds Try.pinned (OpenSpec.ofChange fnExactNewFirstSpec)

/-- ITS FALSE NEIGHBOUR: 'it returns false'. Refute it at one input. -/
def fnExactNewFirstWrong : ChangeSpec := { name := "fnExactNewFirst", fn := fun _ => fun
  | [d1, d2] => { results := [.lit (.bool false)], args := [d1, d2] }
  | _ => none }
def FnExactNewFirstWrongFalsely : Prop := fnExactNewFirstRow.holds Try.pinned (OpenSpec.ofChange fnExactNewFirstWrong)

/-- 'laws.FnExactCostOf': WHATEVER THE INPUT: true; the input reads as it did. -/
def fnExactCostOfSpec : ChangeSpec := { name := "fnExactCostOf", fn := fun _ => fun
  | [d1, d2] => { results := [.lit (.bool true)], args := [d1, d2] }
  | _ => none }
def fnExactCostOfRow : OpenClaim := { program := "ytphjcoondlhefaa", sum := "edb9f6e17bd593080a39afa111b4a866029288f26fe70463efd575381bfb2c89", func := "loop.example/fixturehouse/laws.FnExactCostOf", spec := "fnExactCostOf", inPlace := ["internal/bytealg.IndexByteString", "internal/bytealg.IndexString"], unfollowed := true, recurses := true, named := ["internal/bytealg.MaxLen"], apart := false }
def FnExactCostOfSaid : Prop := fnExactCostOfRow.holds Try.pinned (OpenSpec.ofChange fnExactCostOfSpec)

/-- ITS FALSE NEIGHBOUR: 'it returns false'. Refute it at one input. -/
def fnExactCostOfWrong : ChangeSpec := { name := "fnExactCostOf", fn := fun _ => fun
  | [d1, d2] => { results := [.lit (.bool false)], args := [d1, d2] }
  | _ => none }
def FnExactCostOfWrongFalsely : Prop := fnExactCostOfRow.holds Try.pinned (OpenSpec.ofChange fnExactCostOfWrong)

/-- 'laws.FnCostOf': WHATEVER THE INPUT: true; the input reads as it did. -/
def fnCostOfSpec : ChangeSpec := { name := "fnCostOf", fn := fun _ => fun
  | [d] => { results := [.lit (.bool true)], args := [d] }
  | _ => none }
def fnCostOfRow : OpenClaim := { program := "ytphjcoondlhefaa", sum := "edb9f6e17bd593080a39afa111b4a866029288f26fe70463efd575381bfb2c89", func := "loop.example/fixturehouse/laws.FnCostOf", spec := "fnCostOf", inPlace := ["internal/bytealg.IndexByteString", "internal/bytealg.IndexString"], unfollowed := true, recurses := true, named := ["internal/bytealg.MaxLen"], apart := false }
def FnCostOfSaid : Prop := fnCostOfRow.holds Try.pinned (OpenSpec.ofChange fnCostOfSpec)

/-- ITS FALSE NEIGHBOUR: 'it returns false'. Refute it at one input. -/
def fnCostOfWrong : ChangeSpec := { name := "fnCostOf", fn := fun _ => fun
  | [d] => { results := [.lit (.bool false)], args := [d] }
  | _ => none }
def FnCostOfWrongFalsely : Prop := fnCostOfRow.holds Try.pinned (OpenSpec.ofChange fnCostOfWrong)

/-- 'laws.FnExactFailedFirst': WHATEVER THE INPUT: true; the input reads as it did. -/
def fnExactFailedFirstSpec : ChangeSpec := { name := "fnExactFailedFirst", fn := fun _ => fun
  | [d1, d2] => { results := [.lit (.bool true)], args := [d1, d2] }
  | _ => none }
def fnExactFailedFirstRow : OpenClaim := { program := "ytphjcoondlhefaa", sum := "edb9f6e17bd593080a39afa111b4a866029288f26fe70463efd575381bfb2c89", func := "loop.example/fixturehouse/laws.FnExactFailedFirst", spec := "fnExactFailedFirst", inPlace := ["internal/bytealg.IndexByteString", "internal/bytealg.IndexString"], unfollowed := true, recurses := true, named := ["internal/bytealg.MaxLen"], apart := false }
def FnExactFailedFirstSaid : Prop := fnExactFailedFirstRow.holds Try.pinned (OpenSpec.ofChange fnExactFailedFirstSpec)

/-- ITS FALSE NEIGHBOUR: 'it returns false'. Refute it at one input. -/
def fnExactFailedFirstWrong : ChangeSpec := { name := "fnExactFailedFirst", fn := fun _ => fun
  | [d1, d2] => { results := [.lit (.bool false)], args := [d1, d2] }
  | _ => none }
def FnExactFailedFirstWrongFalsely : Prop := fnExactFailedFirstRow.holds Try.pinned (OpenSpec.ofChange fnExactFailedFirstWrong)

/-- 'laws.FnTotalCost': WHATEVER THE INPUT: true; the input reads as it did. -/
def fnTotalCostSpec : ChangeSpec := { name := "fnTotalCost", fn := fun _ => fun
  | [d] => { results := [.lit (.bool true)], args := [d] }
  | _ => none }
def fnTotalCostRow : OpenClaim := { program := "ytphjcoondlhefaa", sum := "edb9f6e17bd593080a39afa111b4a866029288f26fe70463efd575381bfb2c89", func := "loop.example/fixturehouse/laws.FnTotalCost", spec := "fnTotalCost", inPlace := ["internal/bytealg.IndexByteString", "internal/bytealg.IndexString"], unfollowed := true, recurses := true, named := ["internal/bytealg.MaxLen"], apart := false }
def FnTotalCostSaid : Prop := fnTotalCostRow.holds Try.pinned (OpenSpec.ofChange fnTotalCostSpec)

/-- ITS FALSE NEIGHBOUR: 'it returns false'. Refute it at one input. -/
def fnTotalCostWrong : ChangeSpec := { name := "fnTotalCost", fn := fun _ => fun
  | [d] => { results := [.lit (.bool false)], args := [d] }
  | _ => none }
def FnTotalCostWrongFalsely : Prop := fnTotalCostRow.holds Try.pinned (OpenSpec.ofChange fnTotalCostWrong)

/-- 'laws.FnLearnPast': WHATEVER THE INPUT: true; the input reads as it did. -/
def fnLearnPastSpec : ChangeSpec := { name := "fnLearnPast", fn := fun _ => fun
  | [d] => { results := [.lit (.bool true)], args := [d] }
  | _ => none }
def fnLearnPastRow : OpenClaim := { program := "ytphjcoondlhefaa", sum := "edb9f6e17bd593080a39afa111b4a866029288f26fe70463efd575381bfb2c89", func := "loop.example/fixturehouse/laws.FnLearnPast", spec := "fnLearnPast", inPlace := ["internal/bytealg.IndexByteString", "internal/bytealg.IndexString"], unfollowed := true, recurses := true, named := ["internal/bytealg.MaxLen"], apart := false }
def FnLearnPastSaid : Prop := fnLearnPastRow.holds Try.pinned (OpenSpec.ofChange fnLearnPastSpec)

/-- ITS FALSE NEIGHBOUR: 'it returns false'. Refute it at one input. -/
def fnLearnPastWrong : ChangeSpec := { name := "fnLearnPast", fn := fun _ => fun
  | [d] => { results := [.lit (.bool false)], args := [d] }
  | _ => none }
def FnLearnPastWrongFalsely : Prop := fnLearnPastRow.holds Try.pinned (OpenSpec.ofChange fnLearnPastWrong)

/-- 'laws.FnExactTotalCost': WHATEVER THE INPUT: true; the input reads as it did. -/
def fnExactTotalCostSpec : ChangeSpec := { name := "fnExactTotalCost", fn := fun _ => fun
  | [d1, d2] => { results := [.lit (.bool true)], args := [d1, d2] }
  | _ => none }
def fnExactTotalCostRow : OpenClaim := { program := "ytphjcoondlhefaa", sum := "edb9f6e17bd593080a39afa111b4a866029288f26fe70463efd575381bfb2c89", func := "loop.example/fixturehouse/laws.FnExactTotalCost", spec := "fnExactTotalCost", inPlace := ["internal/bytealg.IndexByteString", "internal/bytealg.IndexString"], unfollowed := true, recurses := true, named := ["internal/bytealg.MaxLen"], apart := false }
def FnExactTotalCostSaid : Prop := fnExactTotalCostRow.holds Try.pinned (OpenSpec.ofChange fnExactTotalCostSpec)

/-- ITS FALSE NEIGHBOUR: 'it returns false'. Refute it at one input. -/
def fnExactTotalCostWrong : ChangeSpec := { name := "fnExactTotalCost", fn := fun _ => fun
  | [d1, d2] => { results := [.lit (.bool false)], args := [d1, d2] }
  | _ => none }
def FnExactTotalCostWrongFalsely : Prop := fnExactTotalCostRow.holds Try.pinned (OpenSpec.ofChange fnExactTotalCostWrong)

/-- 'laws.FnNewFirst': WHATEVER THE INPUT: true; the input reads as it did. -/
def fnNewFirstSpec : ChangeSpec := { name := "fnNewFirst", fn := fun _ => fun
  | [d] => { results := [.lit (.bool true)], args := [d] }
  | _ => none }
def fnNewFirstRow : OpenClaim := { program := "ytphjcoondlhefaa", sum := "edb9f6e17bd593080a39afa111b4a866029288f26fe70463efd575381bfb2c89", func := "loop.example/fixturehouse/laws.FnNewFirst", spec := "fnNewFirst", inPlace := ["internal/bytealg.IndexByteString", "internal/bytealg.IndexString"], unfollowed := true, recurses := true, named := ["internal/bytealg.MaxLen"], apart := false }
def FnNewFirstSaid : Prop := fnNewFirstRow.holds Try.pinned (OpenSpec.ofChange fnNewFirstSpec)

/-- ITS FALSE NEIGHBOUR: 'it returns false'. Refute it at one input. -/
def fnNewFirstWrong : ChangeSpec := { name := "fnNewFirst", fn := fun _ => fun
  | [d] => { results := [.lit (.bool false)], args := [d] }
  | _ => none }
def FnNewFirstWrongFalsely : Prop := fnNewFirstRow.holds Try.pinned (OpenSpec.ofChange fnNewFirstWrong)

/-- 'laws.FnFailedFirst': WHATEVER THE INPUT: true; the input reads as it did. -/
def fnFailedFirstSpec : ChangeSpec := { name := "fnFailedFirst", fn := fun _ => fun
  | [d] => { results := [.lit (.bool true)], args := [d] }
  | _ => none }
def fnFailedFirstRow : OpenClaim := { program := "ytphjcoondlhefaa", sum := "edb9f6e17bd593080a39afa111b4a866029288f26fe70463efd575381bfb2c89", func := "loop.example/fixturehouse/laws.FnFailedFirst", spec := "fnFailedFirst", inPlace := ["internal/bytealg.IndexByteString", "internal/bytealg.IndexString"], unfollowed := true, recurses := true, named := ["internal/bytealg.MaxLen"], apart := false }
def FnFailedFirstSaid : Prop := fnFailedFirstRow.holds Try.pinned (OpenSpec.ofChange fnFailedFirstSpec)

/-- ITS FALSE NEIGHBOUR: 'it returns false'. Refute it at one input. -/
def fnFailedFirstWrong : ChangeSpec := { name := "fnFailedFirst", fn := fun _ => fun
  | [d] => { results := [.lit (.bool false)], args := [d] }
  | _ => none }
def FnFailedFirstWrongFalsely : Prop := fnFailedFirstRow.holds Try.pinned (OpenSpec.ofChange fnFailedFirstWrong)

/-- 'laws.FnPickBudget': WHATEVER THE INPUT: true; the input reads as it did. -/
def fnPickBudgetSpec : ChangeSpec := { name := "fnPickBudget", fn := fun _ => fun
  | [d] => { results := [.lit (.bool true)], args := [d] }
  | _ => none }
def fnPickBudgetRow : OpenClaim := { program := "ytphjcoondlhefaa", sum := "edb9f6e17bd593080a39afa111b4a866029288f26fe70463efd575381bfb2c89", func := "loop.example/fixturehouse/laws.FnPickBudget", spec := "fnPickBudget", inPlace := ["internal/bytealg.IndexByteString", "internal/bytealg.IndexString"], unfollowed := true, recurses := true, named := ["internal/bytealg.MaxLen"], apart := false }
def FnPickBudgetSaid : Prop := fnPickBudgetRow.holds Try.pinned (OpenSpec.ofChange fnPickBudgetSpec)

/-- ITS FALSE NEIGHBOUR: 'it returns false'. Refute it at one input. -/
def fnPickBudgetWrong : ChangeSpec := { name := "fnPickBudget", fn := fun _ => fun
  | [d] => { results := [.lit (.bool false)], args := [d] }
  | _ => none }
def FnPickBudgetWrongFalsely : Prop := fnPickBudgetRow.holds Try.pinned (OpenSpec.ofChange fnPickBudgetWrong)

/- THE SECOND FORM. 'bulk': how many values and letters a reading holds, each counted each time it is reached (what is shared counts as often as it is met; a slice's spare places count too). A statement '..UptoSaid' is the law's where the arguments, and the package variables that the reading takes, are together of bulk at most 1048576: NARROWER than '..Said'. Prove '..Said' where nothing that the law and all that it calls make is longer than what came in: it says more and counts as full. Else prove '..UptoSaid'. A law counts once. -/
mutual
def uptoBulk {H : Type} : DataW H → Nat
  | .lit (.string bytes) => bytes.length + 1
  | .lit _ => 1
  | .nil => 1
  | .ptr d => uptoBulk d + 1
  | .slice elems spare => uptoBulkAll elems + uptoBulkAll spare + 1
  | .agg parts => uptoBulkAll parts + 1
  | .iface _ d => uptoBulk d + 1
  | .map entries => uptoBulkEntries entries + 1
  | .held _ => 1
def uptoBulkAll {H : Type} : List (DataW H) → Nat
  | [] => 0
  | d :: r => uptoBulk d + uptoBulkAll r
def uptoBulkEntries {H : Type} : List (Lit × DataW H) → Nat
  | [] => 0
  | x :: r => uptoBulkEntry x + uptoBulkEntries r
def uptoBulkEntry {H : Type} : Lit × DataW H → Nat
  | (.string bytes, d) => bytes.length + uptoBulk d + 1
  | (_, d) => uptoBulk d + 1
 end
def uptoSmall : (H : Type) → List (DataW H) → Bool := fun _ ds => decide (uptoBulkAll ds ≤ 1048576)
def OpenSpec.upto (s : _root_.Go.ChangeSpec) : _root_.Go.OpenSpec := { _root_.Go.OpenSpec.ofChange s with cond := some uptoSmall }

/-- 'laws.FnValidPast', WHERE WHAT IT READS IS OF BULK AT MOST 1048576: true; the input reads as it did. -/
def fnValidPastUptoRow : OpenClaim := { program := "ytphjcoondlhefaa", sum := "edb9f6e17bd593080a39afa111b4a866029288f26fe70463efd575381bfb2c89", func := "loop.example/fixturehouse/laws.FnValidPast", spec := "fnValidPast", inPlace := ["internal/bytealg.IndexByteString", "internal/bytealg.IndexString"], named := ["internal/bytealg.MaxLen"], apart := false, narrowed := true }
def FnValidPastUptoSaid : Prop := fnValidPastUptoRow.holds Try.pinned (OpenSpec.upto fnValidPastSpec)

/-- 'laws.FnExactValidPast', WHERE WHAT IT READS IS OF BULK AT MOST 1048576: true; the input reads as it did. -/
def fnExactValidPastUptoRow : OpenClaim := { program := "ytphjcoondlhefaa", sum := "edb9f6e17bd593080a39afa111b4a866029288f26fe70463efd575381bfb2c89", func := "loop.example/fixturehouse/laws.FnExactValidPast", spec := "fnExactValidPast", inPlace := ["internal/bytealg.IndexByteString", "internal/bytealg.IndexString"], named := ["internal/bytealg.MaxLen"], apart := false, narrowed := true }
def FnExactValidPastUptoSaid : Prop := fnExactValidPastUptoRow.holds Try.pinned (OpenSpec.upto fnExactValidPastSpec)

/-- 'laws.FnExactNewFirst', WHERE WHAT IT READS IS OF BULK AT MOST 1048576: true; the input reads as it did. -/
def fnExactNewFirstUptoRow : OpenClaim := { program := "ytphjcoondlhefaa", sum := "edb9f6e17bd593080a39afa111b4a866029288f26fe70463efd575381bfb2c89", func := "loop.example/fixturehouse/laws.FnExactNewFirst", spec := "fnExactNewFirst", inPlace := ["internal/bytealg.IndexByteString", "internal/bytealg.IndexString"], unfollowed := true, recurses := true, named := ["internal/bytealg.MaxLen"], apart := false, narrowed := true }
def FnExactNewFirstUptoSaid : Prop := fnExactNewFirstUptoRow.holds Try.pinned (OpenSpec.upto fnExactNewFirstSpec)

/-- 'laws.FnExactCostOf', WHERE WHAT IT READS IS OF BULK AT MOST 1048576: true; the input reads as it did. -/
def fnExactCostOfUptoRow : OpenClaim := { program := "ytphjcoondlhefaa", sum := "edb9f6e17bd593080a39afa111b4a866029288f26fe70463efd575381bfb2c89", func := "loop.example/fixturehouse/laws.FnExactCostOf", spec := "fnExactCostOf", inPlace := ["internal/bytealg.IndexByteString", "internal/bytealg.IndexString"], unfollowed := true, recurses := true, named := ["internal/bytealg.MaxLen"], apart := false, narrowed := true }
def FnExactCostOfUptoSaid : Prop := fnExactCostOfUptoRow.holds Try.pinned (OpenSpec.upto fnExactCostOfSpec)

/-- 'laws.FnCostOf', WHERE WHAT IT READS IS OF BULK AT MOST 1048576: true; the input reads as it did. -/
def fnCostOfUptoRow : OpenClaim := { program := "ytphjcoondlhefaa", sum := "edb9f6e17bd593080a39afa111b4a866029288f26fe70463efd575381bfb2c89", func := "loop.example/fixturehouse/laws.FnCostOf", spec := "fnCostOf", inPlace := ["internal/bytealg.IndexByteString", "internal/bytealg.IndexString"], unfollowed := true, recurses := true, named := ["internal/bytealg.MaxLen"], apart := false, narrowed := true }
def FnCostOfUptoSaid : Prop := fnCostOfUptoRow.holds Try.pinned (OpenSpec.upto fnCostOfSpec)

/-- 'laws.FnExactFailedFirst', WHERE WHAT IT READS IS OF BULK AT MOST 1048576: true; the input reads as it did. -/
def fnExactFailedFirstUptoRow : OpenClaim := { program := "ytphjcoondlhefaa", sum := "edb9f6e17bd593080a39afa111b4a866029288f26fe70463efd575381bfb2c89", func := "loop.example/fixturehouse/laws.FnExactFailedFirst", spec := "fnExactFailedFirst", inPlace := ["internal/bytealg.IndexByteString", "internal/bytealg.IndexString"], unfollowed := true, recurses := true, named := ["internal/bytealg.MaxLen"], apart := false, narrowed := true }
def FnExactFailedFirstUptoSaid : Prop := fnExactFailedFirstUptoRow.holds Try.pinned (OpenSpec.upto fnExactFailedFirstSpec)

/-- 'laws.FnTotalCost', WHERE WHAT IT READS IS OF BULK AT MOST 1048576: true; the input reads as it did. -/
def fnTotalCostUptoRow : OpenClaim := { program := "ytphjcoondlhefaa", sum := "edb9f6e17bd593080a39afa111b4a866029288f26fe70463efd575381bfb2c89", func := "loop.example/fixturehouse/laws.FnTotalCost", spec := "fnTotalCost", inPlace := ["internal/bytealg.IndexByteString", "internal/bytealg.IndexString"], unfollowed := true, recurses := true, named := ["internal/bytealg.MaxLen"], apart := false, narrowed := true }
def FnTotalCostUptoSaid : Prop := fnTotalCostUptoRow.holds Try.pinned (OpenSpec.upto fnTotalCostSpec)

/-- 'laws.FnLearnPast', WHERE WHAT IT READS IS OF BULK AT MOST 1048576: true; the input reads as it did. -/
def fnLearnPastUptoRow : OpenClaim := { program := "ytphjcoondlhefaa", sum := "edb9f6e17bd593080a39afa111b4a866029288f26fe70463efd575381bfb2c89", func := "loop.example/fixturehouse/laws.FnLearnPast", spec := "fnLearnPast", inPlace := ["internal/bytealg.IndexByteString", "internal/bytealg.IndexString"], unfollowed := true, recurses := true, named := ["internal/bytealg.MaxLen"], apart := false, narrowed := true }
def FnLearnPastUptoSaid : Prop := fnLearnPastUptoRow.holds Try.pinned (OpenSpec.upto fnLearnPastSpec)

/-- 'laws.FnExactTotalCost', WHERE WHAT IT READS IS OF BULK AT MOST 1048576: true; the input reads as it did. -/
def fnExactTotalCostUptoRow : OpenClaim := { program := "ytphjcoondlhefaa", sum := "edb9f6e17bd593080a39afa111b4a866029288f26fe70463efd575381bfb2c89", func := "loop.example/fixturehouse/laws.FnExactTotalCost", spec := "fnExactTotalCost", inPlace := ["internal/bytealg.IndexByteString", "internal/bytealg.IndexString"], unfollowed := true, recurses := true, named := ["internal/bytealg.MaxLen"], apart := false, narrowed := true }
def FnExactTotalCostUptoSaid : Prop := fnExactTotalCostUptoRow.holds Try.pinned (OpenSpec.upto fnExactTotalCostSpec)

/-- 'laws.FnNewFirst', WHERE WHAT IT READS IS OF BULK AT MOST 1048576: true; the input reads as it did. -/
def fnNewFirstUptoRow : OpenClaim := { program := "ytphjcoondlhefaa", sum := "edb9f6e17bd593080a39afa111b4a866029288f26fe70463efd575381bfb2c89", func := "loop.example/fixturehouse/laws.FnNewFirst", spec := "fnNewFirst", inPlace := ["internal/bytealg.IndexByteString", "internal/bytealg.IndexString"], unfollowed := true, recurses := true, named := ["internal/bytealg.MaxLen"], apart := false, narrowed := true }
def FnNewFirstUptoSaid : Prop := fnNewFirstUptoRow.holds Try.pinned (OpenSpec.upto fnNewFirstSpec)

/-- 'laws.FnFailedFirst', WHERE WHAT IT READS IS OF BULK AT MOST 1048576: true; the input reads as it did. -/
def fnFailedFirstUptoRow : OpenClaim := { program := "ytphjcoondlhefaa", sum := "edb9f6e17bd593080a39afa111b4a866029288f26fe70463efd575381bfb2c89", func := "loop.example/fixturehouse/laws.FnFailedFirst", spec := "fnFailedFirst", inPlace := ["internal/bytealg.IndexByteString", "internal/bytealg.IndexString"], unfollowed := true, recurses := true, named := ["internal/bytealg.MaxLen"], apart := false, narrowed := true }
def FnFailedFirstUptoSaid : Prop := fnFailedFirstUptoRow.holds Try.pinned (OpenSpec.upto fnFailedFirstSpec)

/-- 'laws.FnPickBudget', WHERE WHAT IT READS IS OF BULK AT MOST 1048576: true; the input reads as it did. -/
def fnPickBudgetUptoRow : OpenClaim := { program := "ytphjcoondlhefaa", sum := "edb9f6e17bd593080a39afa111b4a866029288f26fe70463efd575381bfb2c89", func := "loop.example/fixturehouse/laws.FnPickBudget", spec := "fnPickBudget", inPlace := ["internal/bytealg.IndexByteString", "internal/bytealg.IndexString"], unfollowed := true, recurses := true, named := ["internal/bytealg.MaxLen"], apart := false, narrowed := true }
def FnPickBudgetUptoSaid : Prop := fnPickBudgetUptoRow.holds Try.pinned (OpenSpec.upto fnPickBudgetSpec)

end Rows
end Go.Proofs.Ytphjcoondlhefaa
