/-
  DERIVED. GIVEN WITH THE SEED: THE CARDS: each row of YticakhajakklhaaDoorRows.lean that lists a variable, with what it lists TIED to the program's text (the seventh form; the later family's looks); each row that meets fmt, with fmt's text TOLD by the authors' own Lean function (tested against real Go, not proved from fmt's source: count such statements apart). THE CARD IS WHAT COUNTS. Prove the row's statement (the work); the ties are given (YticakhajakklhaaDoorTie.lean); close each card by the builder's one call (the guide's Derived/Test/ToyasCard.lean, 'card_holds'). Laid BY PROGRAM, IN A SANDBOX (cutbox-door.mjs). By AI agents, Wed Nov 11 2026. No macro, syntax, notation, axiom, sorry.
-/
import Derived.Test.YticakhajakklhaaDoorRows
import GoSem.ClaimSeven
namespace Go.Proofs.YticakhajakklhaaDoor
namespace Rows

/-- THE TIED CARD OF 'laws.FnExactParseMan'. -/
def fnExactParseManCard : Claim7 := { stood := { row := fnExactParseManRow, standIns := [], harness := (true, "e016a1306e3ae6a5b77bbe6fde8ee6ff2794d349aad3522c5290f8a72a3631d3"), looks := true }, kinds := [], alts := [], laidByText := true, laidKinds := [.data, .data, .data, .data, .sentinel, .sentinel, .pinned], laidTests := true, laidLooks := .later }
def FnExactParseManCardSaid : Prop := Claim7.holds Tryd.pinned (.plain (OpenSpec.ofChange fnExactParseManSpec)) fnExactParseManCard

/-- THE SECOND FORM's CARD OF 'laws.FnExactParseMan'. -/
def fnExactParseManUptoCard : Claim7 := { stood := { row := fnExactParseManUptoRow, standIns := [], harness := (true, "e016a1306e3ae6a5b77bbe6fde8ee6ff2794d349aad3522c5290f8a72a3631d3"), looks := true }, kinds := [], alts := [], laidByText := true, laidKinds := [.data, .data, .data, .data, .sentinel, .sentinel, .pinned], laidTests := true, laidLooks := .later }
def FnExactParseManUptoCardSaid : Prop := Claim7.holds Tryd.pinned (.plain (OpenSpec.upto fnExactParseManSpec)) fnExactParseManUptoCard
end Rows
end Go.Proofs.YticakhajakklhaaDoor
