/-
  DERIVED. GIVEN WITH THE SEED: THE CARDS: each row of YtpeiafamkajedaaDoorRows.lean that lists a variable, with what it lists TIED to the program's text (the seventh form; the later family's looks); each row that meets fmt, with fmt's text TOLD by the authors' own Lean function (tested against real Go, not proved from fmt's source: count such statements apart). THE CARD IS WHAT COUNTS. Prove the row's statement (the work); the ties are given (YtpeiafamkajedaaDoorTie.lean); close each card by the builder's one call (the guide's Derived/Test/ToyasCard.lean, 'card_holds'). Laid BY PROGRAM, IN A SANDBOX (cutbox-door.mjs). By AI agents, Wed Nov 11 2026. No macro, syntax, notation, axiom, sorry.
-/
import Derived.Test.YtpeiafamkajedaaDoorRows
import GoSem.ClaimSeven
namespace Go.Proofs.YtpeiafamkajedaaDoor
namespace Rows

/-- THE TIED CARD OF 'thicketlaw08.RulesOthers'. -/
def rulesOthersCard : Claim7 := { stood := { row := rulesOthersRow, standIns := [], harness := (true, "08dfb8f9641b44c1f72094e9cd936677c7cae7d1a59999b535bbaf80706ab60a"), looks := false }, kinds := [], alts := [], laidByText := true, laidKinds := [.data], laidTests := true, laidLooks := .later }
def RulesOthersCardSaid : Prop := Claim7.holds Tryd.pinned (.plain (OpenSpec.ofChange rulesOthersSpec)) rulesOthersCard

/-- THE TIED CARD OF 'thicketlaw08.RulesWraps'. -/
def rulesWrapsCard : Claim7 := { stood := { row := rulesWrapsRow, standIns := [], harness := (true, "08dfb8f9641b44c1f72094e9cd936677c7cae7d1a59999b535bbaf80706ab60a"), looks := false }, kinds := [], alts := [], laidByText := true, laidKinds := [.data], laidTests := true, laidLooks := .later }
def RulesWrapsCardSaid : Prop := Claim7.holds Tryd.pinned (.plain (OpenSpec.ofChange rulesWrapsSpec)) rulesWrapsCard

/-- THE SECOND FORM's CARD OF 'thicketlaw08.RulesOthers'. -/
def rulesOthersUptoCard : Claim7 := { stood := { row := rulesOthersUptoRow, standIns := [], harness := (true, "08dfb8f9641b44c1f72094e9cd936677c7cae7d1a59999b535bbaf80706ab60a"), looks := false }, kinds := [], alts := [], laidByText := true, laidKinds := [.data], laidTests := true, laidLooks := .later }
def RulesOthersUptoCardSaid : Prop := Claim7.holds Tryd.pinned (.plain (OpenSpec.upto rulesOthersSpec)) rulesOthersUptoCard

/-- THE SECOND FORM's CARD OF 'thicketlaw08.RulesWraps'. -/
def rulesWrapsUptoCard : Claim7 := { stood := { row := rulesWrapsUptoRow, standIns := [], harness := (true, "08dfb8f9641b44c1f72094e9cd936677c7cae7d1a59999b535bbaf80706ab60a"), looks := false }, kinds := [], alts := [], laidByText := true, laidKinds := [.data], laidTests := true, laidLooks := .later }
def RulesWrapsUptoCardSaid : Prop := Claim7.holds Tryd.pinned (.plain (OpenSpec.upto rulesWrapsSpec)) rulesWrapsUptoCard
end Rows
end Go.Proofs.YtpeiafamkajedaaDoor
