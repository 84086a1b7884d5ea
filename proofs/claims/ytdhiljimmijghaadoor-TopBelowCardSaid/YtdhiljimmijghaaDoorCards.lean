/-
  DERIVED. GIVEN WITH THE SEED: THE CARDS: each row of YtdhiljimmijghaaDoorRows.lean that lists a variable, with what it lists TIED to the program's text (the seventh form; the later family's looks); each row that meets fmt, with fmt's text TOLD by the authors' own Lean function (tested against real Go, not proved from fmt's source: count such statements apart). THE CARD IS WHAT COUNTS. Prove the row's statement (the work); the ties are given (YtdhiljimmijghaaDoorTie.lean); close each card by the builder's one call (the guide's Derived/Test/ToyasCard.lean, 'card_holds'). Laid BY PROGRAM, IN A SANDBOX (cutbox-door.mjs). By AI agents, Wed Nov 11 2026. No macro, syntax, notation, axiom, sorry.
-/
import Derived.Test.YtdhiljimmijghaaDoorRows
import GoSem.ClaimSeven
namespace Go.Proofs.YtdhiljimmijghaaDoor
namespace Rows

/-- THE TIED CARD OF 'thickettop.TopBelow'. -/
def topBelowCard : Claim7 := { stood := { row := topBelowRow, standIns := [], harness := (true, "e96d5271db065cb23caf7d1314b2dd641df4bf6a8d2fbd6e33d33025e2d4dca0"), looks := false }, kinds := [], alts := [], laidByText := true, laidKinds := [.data], laidTests := true, laidLooks := .later }
def TopBelowCardSaid : Prop := Claim7.holds Tryd.pinned (.plain (OpenSpec.ofChange topBelowSpec)) topBelowCard

/-- THE SECOND FORM's CARD OF 'thickettop.TopBelow'. -/
def topBelowUptoCard : Claim7 := { stood := { row := topBelowUptoRow, standIns := [], harness := (true, "e96d5271db065cb23caf7d1314b2dd641df4bf6a8d2fbd6e33d33025e2d4dca0"), looks := false }, kinds := [], alts := [], laidByText := true, laidKinds := [.data], laidTests := true, laidLooks := .later }
def TopBelowUptoCardSaid : Prop := Claim7.holds Tryd.pinned (.plain (OpenSpec.upto topBelowSpec)) topBelowUptoCard
end Rows
end Go.Proofs.YtdhiljimmijghaaDoor
