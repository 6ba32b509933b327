/-
  No cell of these rows narrows 'for every input' (looked for: loops, veiled, ifaces, maps, wideKeys, modest, calm, conditions, laid).
  DERIVED. THE GIVEN ROWS OF THIS SEAT. 10 by the template 'for every input the law returns true; each argument reads behind the call as it read before'; 0 by the template 'total and deterministic' (their statements: YtieghkchhjailaaTotals.lean).
  GIVEN WITH THE SEED: the statements are not yours to turn. If you find one false, say at which input.
  Laid BY PROGRAM, IN A SANDBOX (cutbox-rows.mjs): the forced cells as the released guide's own fill.sh prints them over the translation 52e061262bfa5205… (all of the seat's roots in one cut). By AI agents, Wed Nov 11 2026. No macro, syntax, notation, axiom, sorry.
-/
import Derived.Test.YtieghkchhjailaaChecked
import GoSem.Claim
import GoSem.ClaimJoined
import GoSem.ClaimMapViews
import Derived.JoinedTies
import Derived.KernelRfl
namespace Go.Proofs.Ytieghkchhjailaa
/- THE CELL 'sum', in the pinned program and in every row, IS THE sha256 OF THE DUMP (.gsa) THAT YtieghkchhjailaaProg.lean LOADS. Nothing in Lean hashes anything: it is a label: what it is worth is what the hold of that sum in a sandbox is worth. -/
noncomputable def Try.pinned : Pinned := { name := "ytieghkchhjailaa", sum := "52e061262bfa520560cde64967422fb322918a3e61763f37369869f9dbef789e", checked := Try.checked }
namespace Rows
def none {H : Type} : Left H := { results := [], args := [] }

/-- 'laws.FnExactPlanText': WHATEVER THE INPUT: true; the input reads as it did. -/
def fnExactPlanTextSpec : ChangeSpec := { name := "fnExactPlanText", fn := fun _ => fun
  | [d] => { results := [.lit (.bool true)], args := [d] }
  | _ => none }
def fnExactPlanTextRow : OpenClaim := { program := "ytieghkchhjailaa", sum := "52e061262bfa520560cde64967422fb322918a3e61763f37369869f9dbef789e", func := "loop.example/fixturehouse/laws.FnExactPlanText", spec := "fnExactPlanText", inPlace := ["internal/abi.NoEscape", "internal/bytealg.IndexByteString", "internal/bytealg.IndexString"], named := ["internal/bytealg.MaxLen"], apart := false }
def FnExactPlanTextSaid : Prop := fnExactPlanTextRow.holds Try.pinned (OpenSpec.ofChange fnExactPlanTextSpec)

/-- ITS FALSE NEIGHBOUR: 'it returns false'. Refute it at one input. -/
def fnExactPlanTextWrong : ChangeSpec := { name := "fnExactPlanText", fn := fun _ => fun
  | [d] => { results := [.lit (.bool false)], args := [d] }
  | _ => none }
def FnExactPlanTextWrongFalsely : Prop := fnExactPlanTextRow.holds Try.pinned (OpenSpec.ofChange fnExactPlanTextWrong)

/-- 'laws.FnExactFlakyIds': WHATEVER THE INPUT: true; the input reads as it did. -/
def fnExactFlakyIdsSpec : ChangeSpec := { name := "fnExactFlakyIds", fn := fun _ => fun
  | [d] => { results := [.lit (.bool true)], args := [d] }
  | _ => none }
def fnExactFlakyIdsRow : OpenClaim := { program := "ytieghkchhjailaa", sum := "52e061262bfa520560cde64967422fb322918a3e61763f37369869f9dbef789e", func := "loop.example/fixturehouse/laws.FnExactFlakyIds", spec := "fnExactFlakyIds", apart := false }
def FnExactFlakyIdsSaid : Prop := fnExactFlakyIdsRow.holds Try.pinned (OpenSpec.ofChange fnExactFlakyIdsSpec)

/-- ITS FALSE NEIGHBOUR: 'it returns false'. Refute it at one input. -/
def fnExactFlakyIdsWrong : ChangeSpec := { name := "fnExactFlakyIds", fn := fun _ => fun
  | [d] => { results := [.lit (.bool false)], args := [d] }
  | _ => none }
def FnExactFlakyIdsWrongFalsely : Prop := fnExactFlakyIdsRow.holds Try.pinned (OpenSpec.ofChange fnExactFlakyIdsWrong)

/-- 'laws.FnExactParsePlan': WHATEVER THE INPUT: true; the input reads as it did. -/
def fnExactParsePlanSpec : ChangeSpec := { name := "fnExactParsePlan", fn := fun _ => fun
  | [d] => { results := [.lit (.bool true)], args := [d] }
  | _ => none }
def fnExactParsePlanRow : OpenClaim := { program := "ytieghkchhjailaa", sum := "52e061262bfa520560cde64967422fb322918a3e61763f37369869f9dbef789e", func := "loop.example/fixturehouse/laws.FnExactParsePlan", spec := "fnExactParsePlan", inPlace := ["internal/bytealg.IndexByteString", "internal/bytealg.IndexString", "internal/abi.NoEscape"], named := ["internal/bytealg.MaxLen"], apart := false }
def FnExactParsePlanSaid : Prop := fnExactParsePlanRow.holds Try.pinned (OpenSpec.ofChange fnExactParsePlanSpec)

/-- ITS FALSE NEIGHBOUR: 'it returns false'. Refute it at one input. -/
def fnExactParsePlanWrong : ChangeSpec := { name := "fnExactParsePlan", fn := fun _ => fun
  | [d] => { results := [.lit (.bool false)], args := [d] }
  | _ => none }
def FnExactParsePlanWrongFalsely : Prop := fnExactParsePlanRow.holds Try.pinned (OpenSpec.ofChange fnExactParsePlanWrong)

/-- 'laws.FnReportText': WHATEVER THE INPUT: true; the input reads as it did. -/
def fnReportTextSpec : ChangeSpec := { name := "fnReportText", fn := fun _ => fun
  | [d] => { results := [.lit (.bool true)], args := [d] }
  | _ => none }
def fnReportTextRow : OpenClaim := { program := "ytieghkchhjailaa", sum := "52e061262bfa520560cde64967422fb322918a3e61763f37369869f9dbef789e", func := "loop.example/fixturehouse/laws.FnReportText", spec := "fnReportText", inPlace := ["internal/bytealg.IndexByteString", "internal/bytealg.IndexString", "internal/abi.NoEscape"], named := ["internal/bytealg.MaxLen"], apart := false }
def FnReportTextSaid : Prop := fnReportTextRow.holds Try.pinned (OpenSpec.ofChange fnReportTextSpec)

/-- ITS FALSE NEIGHBOUR: 'it returns false'. Refute it at one input. -/
def fnReportTextWrong : ChangeSpec := { name := "fnReportText", fn := fun _ => fun
  | [d] => { results := [.lit (.bool false)], args := [d] }
  | _ => none }
def FnReportTextWrongFalsely : Prop := fnReportTextRow.holds Try.pinned (OpenSpec.ofChange fnReportTextWrong)

/-- 'laws.FnExactReportText': WHATEVER THE INPUT: true; the input reads as it did. -/
def fnExactReportTextSpec : ChangeSpec := { name := "fnExactReportText", fn := fun _ => fun
  | [d] => { results := [.lit (.bool true)], args := [d] }
  | _ => none }
def fnExactReportTextRow : OpenClaim := { program := "ytieghkchhjailaa", sum := "52e061262bfa520560cde64967422fb322918a3e61763f37369869f9dbef789e", func := "loop.example/fixturehouse/laws.FnExactReportText", spec := "fnExactReportText", inPlace := ["internal/bytealg.IndexByteString", "internal/bytealg.IndexString", "internal/abi.NoEscape"], named := ["internal/bytealg.MaxLen"], apart := false }
def FnExactReportTextSaid : Prop := fnExactReportTextRow.holds Try.pinned (OpenSpec.ofChange fnExactReportTextSpec)

/-- ITS FALSE NEIGHBOUR: 'it returns false'. Refute it at one input. -/
def fnExactReportTextWrong : ChangeSpec := { name := "fnExactReportText", fn := fun _ => fun
  | [d] => { results := [.lit (.bool false)], args := [d] }
  | _ => none }
def FnExactReportTextWrongFalsely : Prop := fnExactReportTextRow.holds Try.pinned (OpenSpec.ofChange fnExactReportTextWrong)

/-- 'laws.FnTotalSetups': WHATEVER THE INPUT: true; the input reads as it did. -/
def fnTotalSetupsSpec : ChangeSpec := { name := "fnTotalSetups", fn := fun _ => fun
  | [d] => { results := [.lit (.bool true)], args := [d] }
  | _ => none }
def fnTotalSetupsRow : OpenClaim := { program := "ytieghkchhjailaa", sum := "52e061262bfa520560cde64967422fb322918a3e61763f37369869f9dbef789e", func := "loop.example/fixturehouse/laws.FnTotalSetups", spec := "fnTotalSetups", recurses := true, apart := false }
def FnTotalSetupsSaid : Prop := fnTotalSetupsRow.holds Try.pinned (OpenSpec.ofChange fnTotalSetupsSpec)

/-- ITS FALSE NEIGHBOUR: 'it returns false'. Refute it at one input. -/
def fnTotalSetupsWrong : ChangeSpec := { name := "fnTotalSetups", fn := fun _ => fun
  | [d] => { results := [.lit (.bool false)], args := [d] }
  | _ => none }
def FnTotalSetupsWrongFalsely : Prop := fnTotalSetupsRow.holds Try.pinned (OpenSpec.ofChange fnTotalSetupsWrong)

/-- 'laws.FnParseReport': WHATEVER THE INPUT: true; the input reads as it did. -/
def fnParseReportSpec : ChangeSpec := { name := "fnParseReport", fn := fun _ => fun
  | [d] => { results := [.lit (.bool true)], args := [d] }
  | _ => none }
def fnParseReportRow : OpenClaim := { program := "ytieghkchhjailaa", sum := "52e061262bfa520560cde64967422fb322918a3e61763f37369869f9dbef789e", func := "loop.example/fixturehouse/laws.FnParseReport", spec := "fnParseReport", inPlace := ["internal/bytealg.IndexByteString", "internal/bytealg.IndexString", "internal/abi.NoEscape"], named := ["internal/bytealg.MaxLen"], apart := false }
def FnParseReportSaid : Prop := fnParseReportRow.holds Try.pinned (OpenSpec.ofChange fnParseReportSpec)

/-- ITS FALSE NEIGHBOUR: 'it returns false'. Refute it at one input. -/
def fnParseReportWrong : ChangeSpec := { name := "fnParseReport", fn := fun _ => fun
  | [d] => { results := [.lit (.bool false)], args := [d] }
  | _ => none }
def FnParseReportWrongFalsely : Prop := fnParseReportRow.holds Try.pinned (OpenSpec.ofChange fnParseReportWrong)

/-- 'laws.FnTestsRun': WHATEVER THE INPUT: true; the input reads as it did. -/
def fnTestsRunSpec : ChangeSpec := { name := "fnTestsRun", fn := fun _ => fun
  | [d] => { results := [.lit (.bool true)], args := [d] }
  | _ => none }
def fnTestsRunRow : OpenClaim := { program := "ytieghkchhjailaa", sum := "52e061262bfa520560cde64967422fb322918a3e61763f37369869f9dbef789e", func := "loop.example/fixturehouse/laws.FnTestsRun", spec := "fnTestsRun", recurses := true, apart := false }
def FnTestsRunSaid : Prop := fnTestsRunRow.holds Try.pinned (OpenSpec.ofChange fnTestsRunSpec)

/-- ITS FALSE NEIGHBOUR: 'it returns false'. Refute it at one input. -/
def fnTestsRunWrong : ChangeSpec := { name := "fnTestsRun", fn := fun _ => fun
  | [d] => { results := [.lit (.bool false)], args := [d] }
  | _ => none }
def FnTestsRunWrongFalsely : Prop := fnTestsRunRow.holds Try.pinned (OpenSpec.ofChange fnTestsRunWrong)

/-- 'laws.FnSetupCount': WHATEVER THE INPUT: true; the input reads as it did. -/
def fnSetupCountSpec : ChangeSpec := { name := "fnSetupCount", fn := fun _ => fun
  | [d] => { results := [.lit (.bool true)], args := [d] }
  | _ => none }
def fnSetupCountRow : OpenClaim := { program := "ytieghkchhjailaa", sum := "52e061262bfa520560cde64967422fb322918a3e61763f37369869f9dbef789e", func := "loop.example/fixturehouse/laws.FnSetupCount", spec := "fnSetupCount", recurses := true, apart := false }
def FnSetupCountSaid : Prop := fnSetupCountRow.holds Try.pinned (OpenSpec.ofChange fnSetupCountSpec)

/-- ITS FALSE NEIGHBOUR: 'it returns false'. Refute it at one input. -/
def fnSetupCountWrong : ChangeSpec := { name := "fnSetupCount", fn := fun _ => fun
  | [d] => { results := [.lit (.bool false)], args := [d] }
  | _ => none }
def FnSetupCountWrongFalsely : Prop := fnSetupCountRow.holds Try.pinned (OpenSpec.ofChange fnSetupCountWrong)

/-- 'laws.FnExactParseReport': WHATEVER THE INPUT: true; the input reads as it did. -/
def fnExactParseReportSpec : ChangeSpec := { name := "fnExactParseReport", fn := fun _ => fun
  | [d] => { results := [.lit (.bool true)], args := [d] }
  | _ => none }
def fnExactParseReportRow : OpenClaim := { program := "ytieghkchhjailaa", sum := "52e061262bfa520560cde64967422fb322918a3e61763f37369869f9dbef789e", func := "loop.example/fixturehouse/laws.FnExactParseReport", spec := "fnExactParseReport", inPlace := ["internal/bytealg.IndexByteString", "internal/bytealg.IndexString", "internal/abi.NoEscape"], named := ["internal/bytealg.MaxLen"], apart := false }
def FnExactParseReportSaid : Prop := fnExactParseReportRow.holds Try.pinned (OpenSpec.ofChange fnExactParseReportSpec)

/-- ITS FALSE NEIGHBOUR: 'it returns false'. Refute it at one input. -/
def fnExactParseReportWrong : ChangeSpec := { name := "fnExactParseReport", fn := fun _ => fun
  | [d] => { results := [.lit (.bool false)], args := [d] }
  | _ => none }
def FnExactParseReportWrongFalsely : Prop := fnExactParseReportRow.holds Try.pinned (OpenSpec.ofChange fnExactParseReportWrong)

/- THE SECOND FORM. 'bulk': how many values and letters a reading holds, each counted each time it is reached (what is shared counts as often as it is met; a slice's spare places count too). A statement '..UptoSaid' is the law's where the arguments, and the package variables that the reading takes, are together of bulk at most 1048576: NARROWER than '..Said'. Prove '..Said' where nothing that the law and all that it calls make is longer than what came in: it says more and counts as full. Else prove '..UptoSaid'. A law counts once. -/
mutual
def uptoBulk {H : Type} : DataW H → Nat
  | .lit (.string bytes) => bytes.length + 1
  | .lit _ => 1
  | .nil => 1
  | .ptr d => uptoBulk d + 1
  | .slice elems spare => uptoBulkAll elems + uptoBulkAll spare + 1
  | .agg parts => uptoBulkAll parts + 1
  | .iface _ d => uptoBulk d + 1
  | .map entries => uptoBulkEntries entries + 1
  | .held _ => 1
def uptoBulkAll {H : Type} : List (DataW H) → Nat
  | [] => 0
  | d :: r => uptoBulk d + uptoBulkAll r
def uptoBulkEntries {H : Type} : List (Lit × DataW H) → Nat
  | [] => 0
  | x :: r => uptoBulkEntry x + uptoBulkEntries r
def uptoBulkEntry {H : Type} : Lit × DataW H → Nat
  | (.string bytes, d) => bytes.length + uptoBulk d + 1
  | (_, d) => uptoBulk d + 1
 end
def uptoSmall : (H : Type) → List (DataW H) → Bool := fun _ ds => decide (uptoBulkAll ds ≤ 1048576)
def OpenSpec.upto (s : _root_.Go.ChangeSpec) : _root_.Go.OpenSpec := { _root_.Go.OpenSpec.ofChange s with cond := some uptoSmall }

/-- 'laws.FnExactPlanText', WHERE WHAT IT READS IS OF BULK AT MOST 1048576: true; the input reads as it did. -/
def fnExactPlanTextUptoRow : OpenClaim := { program := "ytieghkchhjailaa", sum := "52e061262bfa520560cde64967422fb322918a3e61763f37369869f9dbef789e", func := "loop.example/fixturehouse/laws.FnExactPlanText", spec := "fnExactPlanText", inPlace := ["internal/abi.NoEscape", "internal/bytealg.IndexByteString", "internal/bytealg.IndexString"], named := ["internal/bytealg.MaxLen"], apart := false, narrowed := true }
def FnExactPlanTextUptoSaid : Prop := fnExactPlanTextUptoRow.holds Try.pinned (OpenSpec.upto fnExactPlanTextSpec)

/-- 'laws.FnExactFlakyIds', WHERE WHAT IT READS IS OF BULK AT MOST 1048576: true; the input reads as it did. -/
def fnExactFlakyIdsUptoRow : OpenClaim := { program := "ytieghkchhjailaa", sum := "52e061262bfa520560cde64967422fb322918a3e61763f37369869f9dbef789e", func := "loop.example/fixturehouse/laws.FnExactFlakyIds", spec := "fnExactFlakyIds", apart := false, narrowed := true }
def FnExactFlakyIdsUptoSaid : Prop := fnExactFlakyIdsUptoRow.holds Try.pinned (OpenSpec.upto fnExactFlakyIdsSpec)

/-- 'laws.FnExactParsePlan', WHERE WHAT IT READS IS OF BULK AT MOST 1048576: true; the input reads as it did. -/
def fnExactParsePlanUptoRow : OpenClaim := { program := "ytieghkchhjailaa", sum := "52e061262bfa520560cde64967422fb322918a3e61763f37369869f9dbef789e", func := "loop.example/fixturehouse/laws.FnExactParsePlan", spec := "fnExactParsePlan", inPlace := ["internal/bytealg.IndexByteString", "internal/bytealg.IndexString", "internal/abi.NoEscape"], named := ["internal/bytealg.MaxLen"], apart := false, narrowed := true }
def FnExactParsePlanUptoSaid : Prop := fnExactParsePlanUptoRow.holds Try.pinned (OpenSpec.upto fnExactParsePlanSpec)

/-- 'laws.FnReportText', WHERE WHAT IT READS IS OF BULK AT MOST 1048576: true; the input reads as it did. -/
def fnReportTextUptoRow : OpenClaim := { program := "ytieghkchhjailaa", sum := "52e061262bfa520560cde64967422fb322918a3e61763f37369869f9dbef789e", func := "loop.example/fixturehouse/laws.FnReportText", spec := "fnReportText", inPlace := ["internal/bytealg.IndexByteString", "internal/bytealg.IndexString", "internal/abi.NoEscape"], named := ["internal/bytealg.MaxLen"], apart := false, narrowed := true }
def FnReportTextUptoSaid : Prop := fnReportTextUptoRow.holds Try.pinned (OpenSpec.upto fnReportTextSpec)

/-- 'laws.FnExactReportText', WHERE WHAT IT READS IS OF BULK AT MOST 1048576: true; the input reads as it did. -/
def fnExactReportTextUptoRow : OpenClaim := { program := "ytieghkchhjailaa", sum := "52e061262bfa520560cde64967422fb322918a3e61763f37369869f9dbef789e", func := "loop.example/fixturehouse/laws.FnExactReportText", spec := "fnExactReportText", inPlace := ["internal/bytealg.IndexByteString", "internal/bytealg.IndexString", "internal/abi.NoEscape"], named := ["internal/bytealg.MaxLen"], apart := false, narrowed := true }
def FnExactReportTextUptoSaid : Prop := fnExactReportTextUptoRow.holds Try.pinned (OpenSpec.upto fnExactReportTextSpec)

/-- 'laws.FnTotalSetups', WHERE WHAT IT READS IS OF BULK AT MOST 1048576: true; the input reads as it did. -/
def fnTotalSetupsUptoRow : OpenClaim := { program := "ytieghkchhjailaa", sum := "52e061262bfa520560cde64967422fb322918a3e61763f37369869f9dbef789e", func := "loop.example/fixturehouse/laws.FnTotalSetups", spec := "fnTotalSetups", recurses := true, apart := false, narrowed := true }
def FnTotalSetupsUptoSaid : Prop := fnTotalSetupsUptoRow.holds Try.pinned (OpenSpec.upto fnTotalSetupsSpec)

/-- 'laws.FnParseReport', WHERE WHAT IT READS IS OF BULK AT MOST 1048576: true; the input reads as it did. -/
def fnParseReportUptoRow : OpenClaim := { program := "ytieghkchhjailaa", sum := "52e061262bfa520560cde64967422fb322918a3e61763f37369869f9dbef789e", func := "loop.example/fixturehouse/laws.FnParseReport", spec := "fnParseReport", inPlace := ["internal/bytealg.IndexByteString", "internal/bytealg.IndexString", "internal/abi.NoEscape"], named := ["internal/bytealg.MaxLen"], apart := false, narrowed := true }
def FnParseReportUptoSaid : Prop := fnParseReportUptoRow.holds Try.pinned (OpenSpec.upto fnParseReportSpec)

/-- 'laws.FnTestsRun', WHERE WHAT IT READS IS OF BULK AT MOST 1048576: true; the input reads as it did. -/
def fnTestsRunUptoRow : OpenClaim := { program := "ytieghkchhjailaa", sum := "52e061262bfa520560cde64967422fb322918a3e61763f37369869f9dbef789e", func := "loop.example/fixturehouse/laws.FnTestsRun", spec := "fnTestsRun", recurses := true, apart := false, narrowed := true }
def FnTestsRunUptoSaid : Prop := fnTestsRunUptoRow.holds Try.pinned (OpenSpec.upto fnTestsRunSpec)

/-- 'laws.FnSetupCount', WHERE WHAT IT READS IS OF BULK AT MOST 1048576: true; the input reads as it did. -/
def fnSetupCountUptoRow : OpenClaim := { program := "ytieghkchhjailaa", sum := "52e061262bfa520560cde64967422fb322918a3e61763f37369869f9dbef789e", func := "loop.example/fixturehouse/laws.FnSetupCount", spec := "fnSetupCount", recurses := true, apart := false, narrowed := true }
def FnSetupCountUptoSaid : Prop := fnSetupCountUptoRow.holds Try.pinned (OpenSpec.upto fnSetupCountSpec)

/-- 'laws.FnExactParseReport', WHERE WHAT IT READS IS OF BULK AT MOST 1048576: true; the input reads as it did. -/
def fnExactParseReportUptoRow : OpenClaim := { program := "ytieghkchhjailaa", sum := "52e061262bfa520560cde64967422fb322918a3e61763f37369869f9dbef789e", func := "loop.example/fixturehouse/laws.FnExactParseReport", spec := "fnExactParseReport", inPlace := ["internal/bytealg.IndexByteString", "internal/bytealg.IndexString", "internal/abi.NoEscape"], named := ["internal/bytealg.MaxLen"], apart := false, narrowed := true }
def FnExactParseReportUptoSaid : Prop := fnExactParseReportUptoRow.holds Try.pinned (OpenSpec.upto fnExactParseReportSpec)

end Rows
end Go.Proofs.Ytieghkchhjailaa
