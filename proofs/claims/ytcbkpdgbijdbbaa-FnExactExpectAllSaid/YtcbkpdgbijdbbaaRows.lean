/-
  No cell of these rows narrows 'for every input' (looked for: loops, veiled, ifaces, maps, wideKeys, modest, calm, conditions, laid).
  DERIVED. THE GIVEN ROWS OF THIS SEAT. 7 by the template 'for every input the law returns true; each argument reads behind the call as it read before'; 0 by the template 'total and deterministic' (their statements: YtcbkpdgbijdbbaaTotals.lean).
  GIVEN WITH THE SEED: the statements are not yours to turn. If you find one false, say at which input.
  Laid BY PROGRAM, IN A SANDBOX (cutbox-rows.mjs): the forced cells as the released guide's own fill.sh prints them over the translation 683963e245073432… (all of the seat's roots in one cut). By AI agents, Wed Nov 11 2026. No macro, syntax, notation, axiom, sorry.
-/
import Derived.Test.YtcbkpdgbijdbbaaChecked
import GoSem.Claim
import GoSem.ClaimJoined
import GoSem.ClaimMapViews
import Derived.JoinedTies
import Derived.KernelRfl
namespace Go.Proofs.Ytcbkpdgbijdbbaa
/- THE CELL 'sum', in the pinned program and in every row, IS THE sha256 OF THE DUMP (.gsa) THAT YtcbkpdgbijdbbaaProg.lean LOADS. Nothing in Lean hashes anything: it is a label: what it is worth is what the hold of that sum in a sandbox is worth. -/
noncomputable def Try.pinned : Pinned := { name := "ytcbkpdgbijdbbaa", sum := "683963e245073432145df081f6d3c2dc35060a0384c139348a44d4194ad5650f", checked := Try.checked }
namespace Rows
def none {H : Type} : Left H := { results := [], args := [] }

/-- 'laws.FnStrayCalls': WHATEVER THE INPUT: true; the input reads as it did. -/
def fnStrayCallsSpec : ChangeSpec := { name := "fnStrayCalls", fn := fun _ => fun
  | [d] => { results := [.lit (.bool true)], args := [d] }
  | _ => none }
def fnStrayCallsRow : OpenClaim := { program := "ytcbkpdgbijdbbaa", sum := "683963e245073432145df081f6d3c2dc35060a0384c139348a44d4194ad5650f", func := "loop.example/fixturehouse/laws.FnStrayCalls", spec := "fnStrayCalls", unfollowed := true, recurses := true, apart := false }
def FnStrayCallsSaid : Prop := fnStrayCallsRow.holds Try.pinned (OpenSpec.ofChange fnStrayCallsSpec)

/-- ITS FALSE NEIGHBOUR: 'it returns false'. Refute it at one input. -/
def fnStrayCallsWrong : ChangeSpec := { name := "fnStrayCalls", fn := fun _ => fun
  | [d] => { results := [.lit (.bool false)], args := [d] }
  | _ => none }
def FnStrayCallsWrongFalsely : Prop := fnStrayCallsRow.holds Try.pinned (OpenSpec.ofChange fnStrayCallsWrong)

/-- 'laws.FnPlayCalls': WHATEVER THE INPUT: true; the input reads as it did. -/
def fnPlayCallsSpec : ChangeSpec := { name := "fnPlayCalls", fn := fun _ => fun
  | [d] => { results := [.lit (.bool true)], args := [d] }
  | _ => none }
def fnPlayCallsRow : OpenClaim := { program := "ytcbkpdgbijdbbaa", sum := "683963e245073432145df081f6d3c2dc35060a0384c139348a44d4194ad5650f", func := "loop.example/fixturehouse/laws.FnPlayCalls", spec := "fnPlayCalls", unfollowed := true, recurses := true, apart := false }
def FnPlayCallsSaid : Prop := fnPlayCallsRow.holds Try.pinned (OpenSpec.ofChange fnPlayCallsSpec)

/-- ITS FALSE NEIGHBOUR: 'it returns false'. Refute it at one input. -/
def fnPlayCallsWrong : ChangeSpec := { name := "fnPlayCalls", fn := fun _ => fun
  | [d] => { results := [.lit (.bool false)], args := [d] }
  | _ => none }
def FnPlayCallsWrongFalsely : Prop := fnPlayCallsRow.holds Try.pinned (OpenSpec.ofChange fnPlayCallsWrong)

/-- 'laws.FnExpectAll': WHATEVER THE INPUT: true; the input reads as it did. -/
def fnExpectAllSpec : ChangeSpec := { name := "fnExpectAll", fn := fun _ => fun
  | [d] => { results := [.lit (.bool true)], args := [d] }
  | _ => none }
def fnExpectAllRow : OpenClaim := { program := "ytcbkpdgbijdbbaa", sum := "683963e245073432145df081f6d3c2dc35060a0384c139348a44d4194ad5650f", func := "loop.example/fixturehouse/laws.FnExpectAll", spec := "fnExpectAll", unfollowed := true, recurses := true, apart := false }
def FnExpectAllSaid : Prop := fnExpectAllRow.holds Try.pinned (OpenSpec.ofChange fnExpectAllSpec)

/-- ITS FALSE NEIGHBOUR: 'it returns false'. Refute it at one input. -/
def fnExpectAllWrong : ChangeSpec := { name := "fnExpectAll", fn := fun _ => fun
  | [d] => { results := [.lit (.bool false)], args := [d] }
  | _ => none }
def FnExpectAllWrongFalsely : Prop := fnExpectAllRow.holds Try.pinned (OpenSpec.ofChange fnExpectAllWrong)

/-- 'laws.FnExactExpectAll': WHATEVER THE INPUT: true; the input reads as it did. -/
def fnExactExpectAllSpec : ChangeSpec := { name := "fnExactExpectAll", fn := fun _ => fun
  | [d] => { results := [.lit (.bool true)], args := [d] }
  | _ => none }
def fnExactExpectAllRow : OpenClaim := { program := "ytcbkpdgbijdbbaa", sum := "683963e245073432145df081f6d3c2dc35060a0384c139348a44d4194ad5650f", func := "loop.example/fixturehouse/laws.FnExactExpectAll", spec := "fnExactExpectAll", apart := false }
def FnExactExpectAllSaid : Prop := fnExactExpectAllRow.holds Try.pinned (OpenSpec.ofChange fnExactExpectAllSpec)

/-- ITS FALSE NEIGHBOUR: 'it returns false'. Refute it at one input. -/
def fnExactExpectAllWrong : ChangeSpec := { name := "fnExactExpectAll", fn := fun _ => fun
  | [d] => { results := [.lit (.bool false)], args := [d] }
  | _ => none }
def FnExactExpectAllWrongFalsely : Prop := fnExactExpectAllRow.holds Try.pinned (OpenSpec.ofChange fnExactExpectAllWrong)

/-- 'laws.FnExactUnmetExpects': WHATEVER THE INPUT: true; the input reads as it did. -/
def fnExactUnmetExpectsSpec : ChangeSpec := { name := "fnExactUnmetExpects", fn := fun _ => fun
  | [d1, d2] => { results := [.lit (.bool true)], args := [d1, d2] }
  | _ => none }
def fnExactUnmetExpectsRow : OpenClaim := { program := "ytcbkpdgbijdbbaa", sum := "683963e245073432145df081f6d3c2dc35060a0384c139348a44d4194ad5650f", func := "loop.example/fixturehouse/laws.FnExactUnmetExpects", spec := "fnExactUnmetExpects", apart := false }
def FnExactUnmetExpectsSaid : Prop := fnExactUnmetExpectsRow.holds Try.pinned (OpenSpec.ofChange fnExactUnmetExpectsSpec)

/-- ITS FALSE NEIGHBOUR: 'it returns false'. Refute it at one input. -/
def fnExactUnmetExpectsWrong : ChangeSpec := { name := "fnExactUnmetExpects", fn := fun _ => fun
  | [d1, d2] => { results := [.lit (.bool false)], args := [d1, d2] }
  | _ => none }
def FnExactUnmetExpectsWrongFalsely : Prop := fnExactUnmetExpectsRow.holds Try.pinned (OpenSpec.ofChange fnExactUnmetExpectsWrong)

/-- 'laws.FnExactStrayCalls': WHATEVER THE INPUT: true; the input reads as it did. -/
def fnExactStrayCallsSpec : ChangeSpec := { name := "fnExactStrayCalls", fn := fun _ => fun
  | [d1, d2] => { results := [.lit (.bool true)], args := [d1, d2] }
  | _ => none }
def fnExactStrayCallsRow : OpenClaim := { program := "ytcbkpdgbijdbbaa", sum := "683963e245073432145df081f6d3c2dc35060a0384c139348a44d4194ad5650f", func := "loop.example/fixturehouse/laws.FnExactStrayCalls", spec := "fnExactStrayCalls", unfollowed := true, recurses := true, apart := false }
def FnExactStrayCallsSaid : Prop := fnExactStrayCallsRow.holds Try.pinned (OpenSpec.ofChange fnExactStrayCallsSpec)

/-- ITS FALSE NEIGHBOUR: 'it returns false'. Refute it at one input. -/
def fnExactStrayCallsWrong : ChangeSpec := { name := "fnExactStrayCalls", fn := fun _ => fun
  | [d1, d2] => { results := [.lit (.bool false)], args := [d1, d2] }
  | _ => none }
def FnExactStrayCallsWrongFalsely : Prop := fnExactStrayCallsRow.holds Try.pinned (OpenSpec.ofChange fnExactStrayCallsWrong)

/-- 'laws.FnExactPlayCalls': WHATEVER THE INPUT: true; the input reads as it did. -/
def fnExactPlayCallsSpec : ChangeSpec := { name := "fnExactPlayCalls", fn := fun _ => fun
  | [d1, d2] => { results := [.lit (.bool true)], args := [d1, d2] }
  | _ => none }
def fnExactPlayCallsRow : OpenClaim := { program := "ytcbkpdgbijdbbaa", sum := "683963e245073432145df081f6d3c2dc35060a0384c139348a44d4194ad5650f", func := "loop.example/fixturehouse/laws.FnExactPlayCalls", spec := "fnExactPlayCalls", unfollowed := true, recurses := true, apart := false }
def FnExactPlayCallsSaid : Prop := fnExactPlayCallsRow.holds Try.pinned (OpenSpec.ofChange fnExactPlayCallsSpec)

/-- ITS FALSE NEIGHBOUR: 'it returns false'. Refute it at one input. -/
def fnExactPlayCallsWrong : ChangeSpec := { name := "fnExactPlayCalls", fn := fun _ => fun
  | [d1, d2] => { results := [.lit (.bool false)], args := [d1, d2] }
  | _ => none }
def FnExactPlayCallsWrongFalsely : Prop := fnExactPlayCallsRow.holds Try.pinned (OpenSpec.ofChange fnExactPlayCallsWrong)

/- THE SECOND FORM. 'bulk': how many values and letters a reading holds, each counted each time it is reached (what is shared counts as often as it is met; a slice's spare places count too). A statement '..UptoSaid' is the law's where the arguments, and the package variables that the reading takes, are together of bulk at most 1048576: NARROWER than '..Said'. Prove '..Said' where nothing that the law and all that it calls make is longer than what came in: it says more and counts as full. Else prove '..UptoSaid'. A law counts once. -/
mutual
def uptoBulk {H : Type} : DataW H → Nat
  | .lit (.string bytes) => bytes.length + 1
  | .lit _ => 1
  | .nil => 1
  | .ptr d => uptoBulk d + 1
  | .slice elems spare => uptoBulkAll elems + uptoBulkAll spare + 1
  | .agg parts => uptoBulkAll parts + 1
  | .iface _ d => uptoBulk d + 1
  | .map entries => uptoBulkEntries entries + 1
  | .held _ => 1
def uptoBulkAll {H : Type} : List (DataW H) → Nat
  | [] => 0
  | d :: r => uptoBulk d + uptoBulkAll r
def uptoBulkEntries {H : Type} : List (Lit × DataW H) → Nat
  | [] => 0
  | x :: r => uptoBulkEntry x + uptoBulkEntries r
def uptoBulkEntry {H : Type} : Lit × DataW H → Nat
  | (.string bytes, d) => bytes.length + uptoBulk d + 1
  | (_, d) => uptoBulk d + 1
 end
def uptoSmall : (H : Type) → List (DataW H) → Bool := fun _ ds => decide (uptoBulkAll ds ≤ 1048576)
def OpenSpec.upto (s : _root_.Go.ChangeSpec) : _root_.Go.OpenSpec := { _root_.Go.OpenSpec.ofChange s with cond := some uptoSmall }

/-- 'laws.FnStrayCalls', WHERE WHAT IT READS IS OF BULK AT MOST 1048576: true; the input reads as it did. -/
def fnStrayCallsUptoRow : OpenClaim := { program := "ytcbkpdgbijdbbaa", sum := "683963e245073432145df081f6d3c2dc35060a0384c139348a44d4194ad5650f", func := "loop.example/fixturehouse/laws.FnStrayCalls", spec := "fnStrayCalls", unfollowed := true, recurses := true, apart := false, narrowed := true }
def FnStrayCallsUptoSaid : Prop := fnStrayCallsUptoRow.holds Try.pinned (OpenSpec.upto fnStrayCallsSpec)

/-- 'laws.FnPlayCalls', WHERE WHAT IT READS IS OF BULK AT MOST 1048576: true; the input reads as it did. -/
def fnPlayCallsUptoRow : OpenClaim := { program := "ytcbkpdgbijdbbaa", sum := "683963e245073432145df081f6d3c2dc35060a0384c139348a44d4194ad5650f", func := "loop.example/fixturehouse/laws.FnPlayCalls", spec := "fnPlayCalls", unfollowed := true, recurses := true, apart := false, narrowed := true }
def FnPlayCallsUptoSaid : Prop := fnPlayCallsUptoRow.holds Try.pinned (OpenSpec.upto fnPlayCallsSpec)

/-- 'laws.FnExpectAll', WHERE WHAT IT READS IS OF BULK AT MOST 1048576: true; the input reads as it did. -/
def fnExpectAllUptoRow : OpenClaim := { program := "ytcbkpdgbijdbbaa", sum := "683963e245073432145df081f6d3c2dc35060a0384c139348a44d4194ad5650f", func := "loop.example/fixturehouse/laws.FnExpectAll", spec := "fnExpectAll", unfollowed := true, recurses := true, apart := false, narrowed := true }
def FnExpectAllUptoSaid : Prop := fnExpectAllUptoRow.holds Try.pinned (OpenSpec.upto fnExpectAllSpec)

/-- 'laws.FnExactExpectAll', WHERE WHAT IT READS IS OF BULK AT MOST 1048576: true; the input reads as it did. -/
def fnExactExpectAllUptoRow : OpenClaim := { program := "ytcbkpdgbijdbbaa", sum := "683963e245073432145df081f6d3c2dc35060a0384c139348a44d4194ad5650f", func := "loop.example/fixturehouse/laws.FnExactExpectAll", spec := "fnExactExpectAll", apart := false, narrowed := true }
def FnExactExpectAllUptoSaid : Prop := fnExactExpectAllUptoRow.holds Try.pinned (OpenSpec.upto fnExactExpectAllSpec)

/-- 'laws.FnExactUnmetExpects', WHERE WHAT IT READS IS OF BULK AT MOST 1048576: true; the input reads as it did. -/
def fnExactUnmetExpectsUptoRow : OpenClaim := { program := "ytcbkpdgbijdbbaa", sum := "683963e245073432145df081f6d3c2dc35060a0384c139348a44d4194ad5650f", func := "loop.example/fixturehouse/laws.FnExactUnmetExpects", spec := "fnExactUnmetExpects", apart := false, narrowed := true }
def FnExactUnmetExpectsUptoSaid : Prop := fnExactUnmetExpectsUptoRow.holds Try.pinned (OpenSpec.upto fnExactUnmetExpectsSpec)

/-- 'laws.FnExactStrayCalls', WHERE WHAT IT READS IS OF BULK AT MOST 1048576: true; the input reads as it did. -/
def fnExactStrayCallsUptoRow : OpenClaim := { program := "ytcbkpdgbijdbbaa", sum := "683963e245073432145df081f6d3c2dc35060a0384c139348a44d4194ad5650f", func := "loop.example/fixturehouse/laws.FnExactStrayCalls", spec := "fnExactStrayCalls", unfollowed := true, recurses := true, apart := false, narrowed := true }
def FnExactStrayCallsUptoSaid : Prop := fnExactStrayCallsUptoRow.holds Try.pinned (OpenSpec.upto fnExactStrayCallsSpec)

/-- 'laws.FnExactPlayCalls', WHERE WHAT IT READS IS OF BULK AT MOST 1048576: true; the input reads as it did. -/
def fnExactPlayCallsUptoRow : OpenClaim := { program := "ytcbkpdgbijdbbaa", sum := "683963e245073432145df081f6d3c2dc35060a0384c139348a44d4194ad5650f", func := "loop.example/fixturehouse/laws.FnExactPlayCalls", spec := "fnExactPlayCalls", unfollowed := true, recurses := true, apart := false, narrowed := true }
def FnExactPlayCallsUptoSaid : Prop := fnExactPlayCallsUptoRow.holds Try.pinned (OpenSpec.upto fnExactPlayCallsSpec)

end Rows
end Go.Proofs.Ytcbkpdgbijdbbaa
