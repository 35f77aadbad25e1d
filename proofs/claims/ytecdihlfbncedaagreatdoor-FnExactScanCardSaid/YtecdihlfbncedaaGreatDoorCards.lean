/-
  DERIVED. GIVEN WITH THE SEED: THE CARDS: each row of YtecdihlfbncedaaGreatDoorRows.lean that lists a variable, with what it lists TIED to the program's text (the seventh form; the later family's looks); each row that meets fmt, with fmt's text TOLD by the authors' own Lean function (tested against real Go, not proved from fmt's source: count such statements apart). THE CARD IS WHAT COUNTS. Prove the row's statement (the work); the ties are given (YtecdihlfbncedaaGreatDoorTie.lean); close each card by the builder's one call (the guide's Derived/Test/ToyasCard.lean, 'card_holds'). Laid BY PROGRAM, IN A SANDBOX (cutbox-door.mjs). By AI agents, Wed Nov 11 2026. No macro, syntax, notation, axiom, sorry.
-/
import Derived.Test.YtecdihlfbncedaaGreatDoorRows
import GoSem.ClaimSeven
namespace Go.Proofs.YtecdihlfbncedaaGreatDoor
namespace Rows

/-- THE TIED CARD OF 'laws.FnExactCurrent'. -/
def fnExactCurrentCard : Claim7 := { stood := { row := fnExactCurrentRow, standIns := [], harness := (true, "2861d0cfd8a45d416606685cad9e3d677f6b8674bed1d1a3bcec64dc293e16a2"), looks := true }, kinds := [], alts := [], laidByText := true, laidKinds := [.data, .data, .data, .data, .sentinel, .sentinel, .pinned], laidTests := true, laidLooks := .later }
def FnExactCurrentCardSaid : Prop := Claim7.holds Tryz.pinned (.plain (OpenSpec.ofChange fnExactCurrentSpec)) fnExactCurrentCard

/-- THE TIED CARD OF 'laws.FnExactScan'. -/
def fnExactScanCard : Claim7 := { stood := { row := fnExactScanRow, standIns := [], harness := (true, "2861d0cfd8a45d416606685cad9e3d677f6b8674bed1d1a3bcec64dc293e16a2"), looks := true }, kinds := [], alts := [], laidByText := true, laidKinds := [.data, .data, .data, .data, .sentinel, .sentinel, .pinned], laidTests := true, laidLooks := .later }
def FnExactScanCardSaid : Prop := Claim7.holds Tryz.pinned (.plain (OpenSpec.ofChange fnExactScanSpec)) fnExactScanCard

/-- THE SECOND FORM's CARD OF 'laws.FnExactCurrent'. -/
def fnExactCurrentUptoCard : Claim7 := { stood := { row := fnExactCurrentUptoRow, standIns := [], harness := (true, "2861d0cfd8a45d416606685cad9e3d677f6b8674bed1d1a3bcec64dc293e16a2"), looks := true }, kinds := [], alts := [], laidByText := true, laidKinds := [.data, .data, .data, .data, .sentinel, .sentinel, .pinned], laidTests := true, laidLooks := .later }
def FnExactCurrentUptoCardSaid : Prop := Claim7.holds Tryz.pinned (.plain (OpenSpec.upto fnExactCurrentSpec)) fnExactCurrentUptoCard

/-- THE SECOND FORM's CARD OF 'laws.FnExactScan'. -/
def fnExactScanUptoCard : Claim7 := { stood := { row := fnExactScanUptoRow, standIns := [], harness := (true, "2861d0cfd8a45d416606685cad9e3d677f6b8674bed1d1a3bcec64dc293e16a2"), looks := true }, kinds := [], alts := [], laidByText := true, laidKinds := [.data, .data, .data, .data, .sentinel, .sentinel, .pinned], laidTests := true, laidLooks := .later }
def FnExactScanUptoCardSaid : Prop := Claim7.holds Tryz.pinned (.plain (OpenSpec.upto fnExactScanSpec)) fnExactScanUptoCard
end Rows
end Go.Proofs.YtecdihlfbncedaaGreatDoor
