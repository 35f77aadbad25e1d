/-
  DERIVED. GIVEN WITH THE SEED: THE CARDS: each row of YtccnjejleedlbaaGreatDoorRows.lean that lists a variable, with what it lists TIED to the program's text (the seventh form; the later family's looks); each row that meets fmt, with fmt's text TOLD by the authors' own Lean function (tested against real Go, not proved from fmt's source: count such statements apart). THE CARD IS WHAT COUNTS. Prove the row's statement (the work); the ties are given (YtccnjejleedlbaaGreatDoorTie.lean); close each card by the builder's one call (the guide's Derived/Test/ToyasCard.lean, 'card_holds'). Laid BY PROGRAM, IN A SANDBOX (cutbox-door.mjs). By AI agents, Wed Nov 11 2026. No macro, syntax, notation, axiom, sorry.
-/
import Derived.Test.YtccnjejleedlbaaGreatDoorRows
import GoSem.ClaimSeven
namespace Go.Proofs.YtccnjejleedlbaaGreatDoor
namespace Rows

/-- THE TIED CARD OF 'laws.FnExactStoreOk'. -/
def fnExactStoreOkCard : Claim7 := { stood := { row := fnExactStoreOkRow, standIns := [], harness := (true, "874495bc26df597c4ea32590fe2231e0c82a9d33e616ef96fbbb5011477608c8"), looks := true }, kinds := [], alts := [], laidByText := true, laidKinds := [.data, .data, .data, .data, .sentinel, .sentinel, .pinned], laidTests := true, laidLooks := .later }
def FnExactStoreOkCardSaid : Prop := Claim7.holds Tryz.pinned (.plain (OpenSpec.ofChange fnExactStoreOkSpec)) fnExactStoreOkCard

/-- THE TIED CARD OF 'laws.FnExactRead'. -/
def fnExactReadCard : Claim7 := { stood := { row := fnExactReadRow, standIns := [], harness := (true, "874495bc26df597c4ea32590fe2231e0c82a9d33e616ef96fbbb5011477608c8"), looks := true }, kinds := [], alts := [], laidByText := true, laidKinds := [.data, .data, .data, .data, .sentinel, .sentinel, .pinned], laidTests := true, laidLooks := .later }
def FnExactReadCardSaid : Prop := Claim7.holds Tryz.pinned (.plain (OpenSpec.ofChange fnExactReadSpec)) fnExactReadCard

/-- THE SECOND FORM's CARD OF 'laws.FnExactStoreOk'. -/
def fnExactStoreOkUptoCard : Claim7 := { stood := { row := fnExactStoreOkUptoRow, standIns := [], harness := (true, "874495bc26df597c4ea32590fe2231e0c82a9d33e616ef96fbbb5011477608c8"), looks := true }, kinds := [], alts := [], laidByText := true, laidKinds := [.data, .data, .data, .data, .sentinel, .sentinel, .pinned], laidTests := true, laidLooks := .later }
def FnExactStoreOkUptoCardSaid : Prop := Claim7.holds Tryz.pinned (.plain (OpenSpec.upto fnExactStoreOkSpec)) fnExactStoreOkUptoCard

/-- THE SECOND FORM's CARD OF 'laws.FnExactRead'. -/
def fnExactReadUptoCard : Claim7 := { stood := { row := fnExactReadUptoRow, standIns := [], harness := (true, "874495bc26df597c4ea32590fe2231e0c82a9d33e616ef96fbbb5011477608c8"), looks := true }, kinds := [], alts := [], laidByText := true, laidKinds := [.data, .data, .data, .data, .sentinel, .sentinel, .pinned], laidTests := true, laidLooks := .later }
def FnExactReadUptoCardSaid : Prop := Claim7.holds Tryz.pinned (.plain (OpenSpec.upto fnExactReadSpec)) fnExactReadUptoCard
end Rows
end Go.Proofs.YtccnjejleedlbaaGreatDoor
