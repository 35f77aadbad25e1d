/-
  DERIVED. GIVEN WITH THE SEED: THE CARDS: each row of YtoagpjfaeedadaaDoorRows.lean that lists a variable, with what it lists TIED to the program's text (the seventh form; the later family's looks); each row that meets fmt, with fmt's text TOLD by the authors' own Lean function (tested against real Go, not proved from fmt's source: count such statements apart). THE CARD IS WHAT COUNTS. Prove the row's statement (the work); the ties are given (YtoagpjfaeedadaaDoorTie.lean); close each card by the builder's one call (the guide's Derived/Test/ToyasCard.lean, 'card_holds'). Laid BY PROGRAM, IN A SANDBOX (cutbox-door.mjs). By AI agents, Wed Nov 11 2026. No macro, syntax, notation, axiom, sorry.
-/
import Derived.Test.YtoagpjfaeedadaaDoorRows
import GoSem.ClaimSeven
namespace Go.Proofs.YtoagpjfaeedadaaDoor
namespace Rows

/-- THE TIED CARD OF 'laws.FnExactManText'. -/
def fnExactManTextCard : Claim7 := { stood := { row := fnExactManTextRow, standIns := [], harness := (true, "cf5432eec03878dd9f3eafa8fbc0fb99b9e8293d4e57d02449e11e6bd60495b1"), looks := false }, kinds := [], alts := [], laidByText := true, laidKinds := [.data, .data, .data], laidTests := true, laidLooks := .later }
def FnExactManTextCardSaid : Prop := Claim7.holds Tryd.pinned (.plain (OpenSpec.ofChange fnExactManTextSpec)) fnExactManTextCard

/-- THE SECOND FORM's CARD OF 'laws.FnExactManText'. -/
def fnExactManTextUptoCard : Claim7 := { stood := { row := fnExactManTextUptoRow, standIns := [], harness := (true, "cf5432eec03878dd9f3eafa8fbc0fb99b9e8293d4e57d02449e11e6bd60495b1"), looks := false }, kinds := [], alts := [], laidByText := true, laidKinds := [.data, .data, .data], laidTests := true, laidLooks := .later }
def FnExactManTextUptoCardSaid : Prop := Claim7.holds Tryd.pinned (.plain (OpenSpec.upto fnExactManTextSpec)) fnExactManTextUptoCard
end Rows
end Go.Proofs.YtoagpjfaeedadaaDoor
