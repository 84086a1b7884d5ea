/-
  DERIVED. GIVEN WITH THE SEED: THE CARDS: each row of YtglpjgbgomppjaaDoorRows.lean that lists a variable, with what it lists TIED to the program's text (the seventh form; the later family's looks); each row that meets fmt, with fmt's text TOLD by the authors' own Lean function (tested against real Go, not proved from fmt's source: count such statements apart). THE CARD IS WHAT COUNTS. Prove the row's statement (the work); the ties are given (YtglpjgbgomppjaaDoorTie.lean); close each card by the builder's one call (the guide's Derived/Test/ToyasCard.lean, 'card_holds'). Laid BY PROGRAM, IN A SANDBOX (cutbox-door.mjs). By AI agents, Wed Nov 11 2026. No macro, syntax, notation, axiom, sorry.
-/
import Derived.Test.YtglpjgbgomppjaaDoorRows
import GoSem.ClaimSeven
namespace Go.Proofs.YtglpjgbgomppjaaDoor
namespace Rows

/-- THE TIED CARD OF 'thicketlaw08.RulesLimits'. -/
def rulesLimitsCard : Claim7 := { stood := { row := rulesLimitsRow, standIns := [], harness := (true, "1373737c017ad54bbf41150bcbc4f6d8d7c43aa022d369a30d85122bfdcfa74c"), looks := false }, kinds := [], alts := [], laidByText := true, laidKinds := [.data], laidTests := true, laidLooks := .later }
def RulesLimitsCardSaid : Prop := Claim7.holds Tryd.pinned (.plain (OpenSpec.ofChange rulesLimitsSpec)) rulesLimitsCard

/-- THE TIED CARD OF 'thicketlaw08.RulesRooms'. -/
def rulesRoomsCard : Claim7 := { stood := { row := rulesRoomsRow, standIns := [], harness := (true, "1373737c017ad54bbf41150bcbc4f6d8d7c43aa022d369a30d85122bfdcfa74c"), looks := false }, kinds := [], alts := [], laidByText := true, laidKinds := [.data], laidTests := true, laidLooks := .later }
def RulesRoomsCardSaid : Prop := Claim7.holds Tryd.pinned (.plain (OpenSpec.ofChange rulesRoomsSpec)) rulesRoomsCard

/-- THE TIED CARD OF 'thicketlaw08.RulesOwn'. -/
def rulesOwnCard : Claim7 := { stood := { row := rulesOwnRow, standIns := [], harness := (true, "1373737c017ad54bbf41150bcbc4f6d8d7c43aa022d369a30d85122bfdcfa74c"), looks := false }, kinds := [], alts := [], laidByText := true, laidKinds := [.data], laidTests := true, laidLooks := .later }
def RulesOwnCardSaid : Prop := Claim7.holds Tryd.pinned (.plain (OpenSpec.ofChange rulesOwnSpec)) rulesOwnCard

/-- THE SECOND FORM's CARD OF 'thicketlaw08.RulesLimits'. -/
def rulesLimitsUptoCard : Claim7 := { stood := { row := rulesLimitsUptoRow, standIns := [], harness := (true, "1373737c017ad54bbf41150bcbc4f6d8d7c43aa022d369a30d85122bfdcfa74c"), looks := false }, kinds := [], alts := [], laidByText := true, laidKinds := [.data], laidTests := true, laidLooks := .later }
def RulesLimitsUptoCardSaid : Prop := Claim7.holds Tryd.pinned (.plain (OpenSpec.upto rulesLimitsSpec)) rulesLimitsUptoCard

/-- THE SECOND FORM's CARD OF 'thicketlaw08.RulesRooms'. -/
def rulesRoomsUptoCard : Claim7 := { stood := { row := rulesRoomsUptoRow, standIns := [], harness := (true, "1373737c017ad54bbf41150bcbc4f6d8d7c43aa022d369a30d85122bfdcfa74c"), looks := false }, kinds := [], alts := [], laidByText := true, laidKinds := [.data], laidTests := true, laidLooks := .later }
def RulesRoomsUptoCardSaid : Prop := Claim7.holds Tryd.pinned (.plain (OpenSpec.upto rulesRoomsSpec)) rulesRoomsUptoCard

/-- THE SECOND FORM's CARD OF 'thicketlaw08.RulesOwn'. -/
def rulesOwnUptoCard : Claim7 := { stood := { row := rulesOwnUptoRow, standIns := [], harness := (true, "1373737c017ad54bbf41150bcbc4f6d8d7c43aa022d369a30d85122bfdcfa74c"), looks := false }, kinds := [], alts := [], laidByText := true, laidKinds := [.data], laidTests := true, laidLooks := .later }
def RulesOwnUptoCardSaid : Prop := Claim7.holds Tryd.pinned (.plain (OpenSpec.upto rulesOwnSpec)) rulesOwnUptoCard
end Rows
end Go.Proofs.YtglpjgbgomppjaaDoor
