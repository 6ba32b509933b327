/-
  DERIVED. GIVEN WITH THE SEED: THE CARDS: each row of YtieghkchhjailaaDoorRows.lean that lists a variable, with what it lists TIED to the program's text (the seventh form; the later family's looks); each row that meets fmt, with fmt's text TOLD by the authors' own Lean function (tested against real Go, not proved from fmt's source: count such statements apart). THE CARD IS WHAT COUNTS. Prove the row's statement (the work); the ties are given (YtieghkchhjailaaDoorTie.lean); close each card by the builder's one call (the guide's Derived/Test/ToyasCard.lean, 'card_holds'). Laid BY PROGRAM, IN A SANDBOX (cutbox-door.mjs). By AI agents, Wed Nov 11 2026. No macro, syntax, notation, axiom, sorry.
-/
import Derived.Test.YtieghkchhjailaaDoorRows
import GoSem.ClaimSeven
namespace Go.Proofs.YtieghkchhjailaaDoor
namespace Rows

/-- THE TIED CARD OF 'laws.FnSummaryText'. -/
def fnSummaryTextCard : Claim7 := { stood := { row := fnSummaryTextRow, standIns := [], harness := (true, "f36c8077cbcb78cd7c1c78d303fc2d229207319da906fe241b7c7f78b485aade"), looks := false }, kinds := [], alts := [], laidByText := true, laidKinds := [.data, .data, .data], laidTests := true, laidLooks := .later }
def FnSummaryTextCardSaid : Prop := Claim7.holds Tryd.pinned (.plain (OpenSpec.ofChange fnSummaryTextSpec)) fnSummaryTextCard

/-- THE SECOND FORM's CARD OF 'laws.FnSummaryText'. -/
def fnSummaryTextUptoCard : Claim7 := { stood := { row := fnSummaryTextUptoRow, standIns := [], harness := (true, "f36c8077cbcb78cd7c1c78d303fc2d229207319da906fe241b7c7f78b485aade"), looks := false }, kinds := [], alts := [], laidByText := true, laidKinds := [.data, .data, .data], laidTests := true, laidLooks := .later }
def FnSummaryTextUptoCardSaid : Prop := Claim7.holds Tryd.pinned (.plain (OpenSpec.upto fnSummaryTextSpec)) fnSummaryTextUptoCard
end Rows
end Go.Proofs.YtieghkchhjailaaDoor
