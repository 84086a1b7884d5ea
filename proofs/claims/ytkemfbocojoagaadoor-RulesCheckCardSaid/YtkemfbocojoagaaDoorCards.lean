/-
  DERIVED. GIVEN WITH THE SEED: THE CARDS: each row of YtkemfbocojoagaaDoorRows.lean that lists a variable, with what it lists TIED to the program's text (the seventh form; the later family's looks); each row that meets fmt, with fmt's text TOLD by the authors' own Lean function (tested against real Go, not proved from fmt's source: count such statements apart). THE CARD IS WHAT COUNTS. Prove the row's statement (the work); the ties are given (YtkemfbocojoagaaDoorTie.lean); close each card by the builder's one call (the guide's Derived/Test/ToyasCard.lean, 'card_holds'). Laid BY PROGRAM, IN A SANDBOX (cutbox-door.mjs). By AI agents, Wed Nov 11 2026. No macro, syntax, notation, axiom, sorry.
-/
import Derived.Test.YtkemfbocojoagaaDoorRows
import GoSem.ClaimSeven
namespace Go.Proofs.YtkemfbocojoagaaDoor
namespace Rows

/-- THE TIED CARD OF 'thicketlaw08.RulesCheck'. -/
def rulesCheckCard : Claim7 := { stood := { row := rulesCheckRow, standIns := [], harness := (true, "1f0abad64dc77607dbf066765f89395852b1c95795234ff0bc6ca2063267ccfb"), looks := false }, kinds := [], alts := [], laidByText := true, laidKinds := [.data], laidTests := true, laidLooks := .later }
def RulesCheckCardSaid : Prop := Claim7.holds Tryd.pinned (.plain (OpenSpec.ofChange rulesCheckSpec)) rulesCheckCard

/-- THE SECOND FORM's CARD OF 'thicketlaw08.RulesCheck'. -/
def rulesCheckUptoCard : Claim7 := { stood := { row := rulesCheckUptoRow, standIns := [], harness := (true, "1f0abad64dc77607dbf066765f89395852b1c95795234ff0bc6ca2063267ccfb"), looks := false }, kinds := [], alts := [], laidByText := true, laidKinds := [.data], laidTests := true, laidLooks := .later }
def RulesCheckUptoCardSaid : Prop := Claim7.holds Tryd.pinned (.plain (OpenSpec.upto rulesCheckSpec)) rulesCheckUptoCard
end Rows
end Go.Proofs.YtkemfbocojoagaaDoor
