/-
  DERIVED. GIVEN WITH THE SEED: THE CARDS: each row of YthcnjpgmgehnkaaDoorRows.lean that lists a variable, with what it lists TIED to the program's text (the seventh form; the later family's looks); each row that meets fmt, with fmt's text TOLD by the authors' own Lean function (tested against real Go, not proved from fmt's source: count such statements apart). THE CARD IS WHAT COUNTS. Prove the row's statement (the work); the ties are given (YthcnjpgmgehnkaaDoorTie.lean); close each card by the builder's one call (the guide's Derived/Test/ToyasCard.lean, 'card_holds'). Laid BY PROGRAM, IN A SANDBOX (cutbox-door.mjs). By AI agents, Wed Nov 11 2026. No macro, syntax, notation, axiom, sorry.
-/
import Derived.Test.YthcnjpgmgehnkaaDoorRows
import GoSem.ClaimSeven
namespace Go.Proofs.YthcnjpgmgehnkaaDoor
namespace Rows

/-- THE TIED CARD OF 'thicketlaw08.RulesSays'. -/
def rulesSaysCard : Claim7 := { stood := { row := rulesSaysRow, standIns := [], harness := (true, "3fa25f376663c6ad9b48370e2c8904000872b2eeda057fa3561cfc0a56fc4482"), looks := false }, kinds := [], alts := [], laidByText := true, laidKinds := [.data, .data, .data], laidTests := true, laidLooks := .later }
def RulesSaysCardSaid : Prop := Claim7.holds Tryd.pinned (.plain (OpenSpec.ofChange rulesSaysSpec)) rulesSaysCard

/-- THE SECOND FORM's CARD OF 'thicketlaw08.RulesSays'. -/
def rulesSaysUptoCard : Claim7 := { stood := { row := rulesSaysUptoRow, standIns := [], harness := (true, "3fa25f376663c6ad9b48370e2c8904000872b2eeda057fa3561cfc0a56fc4482"), looks := false }, kinds := [], alts := [], laidByText := true, laidKinds := [.data, .data, .data], laidTests := true, laidLooks := .later }
def RulesSaysUptoCardSaid : Prop := Claim7.holds Tryd.pinned (.plain (OpenSpec.upto rulesSaysSpec)) rulesSaysUptoCard
end Rows
end Go.Proofs.YthcnjpgmgehnkaaDoor
