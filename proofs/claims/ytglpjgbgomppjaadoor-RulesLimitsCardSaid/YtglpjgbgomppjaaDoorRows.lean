/-
  NARROWER THAN 'FOR EVERY INPUT', by the rows' own cells (each row's printed sentence says how): RulesLimits: laid · RulesRooms: laid · RulesOwn: laid.
  DERIVED. THE GIVEN ROWS OF THIS SEAT. 3 by the template 'for every input the law returns true; each argument reads behind the call as it read before'; 0 by the template 'total and deterministic' (their statements: YtglpjgbgomppjaaDoorTotals.lean).
  GIVEN WITH THE SEED: the statements are not yours to turn. If you find one false, say at which input.
  Laid BY PROGRAM, IN A SANDBOX (cutbox-rows.mjs): the forced cells as the released guide's own fill.sh prints them over the translation 7a465f124da9c217… (all of the seat's roots in one cut). By AI agents, Wed Nov 11 2026. No macro, syntax, notation, axiom, sorry.
-/
import Derived.Test.YtglpjgbgomppjaaDoorChecked
import GoSem.Claim
import GoSem.ClaimJoined
import GoSem.ClaimMapViews
import Derived.JoinedTies
import Derived.KernelRfl
namespace Go.Proofs.YtglpjgbgomppjaaDoor
/- THE CELL 'sum', in the pinned program and in every row, IS THE sha256 OF THE DUMP (.gsa) THAT YtglpjgbgomppjaaDoorProg.lean LOADS. Nothing in Lean hashes anything: it is a label: what it is worth is what the hold of that sum in a sandbox is worth. -/
noncomputable def Tryd.pinned : Pinned := { name := "ytglpjgbgomppjaadoor", sum := "7a465f124da9c217885a047db3e8d6efd645c20cd5fdfeb17290072e25bc9b6a", checked := Tryd.checked }
namespace Rows
def none {H : Type} : Left H := { results := [], args := [] }

/- WHAT THE LISTED PACKAGE-LEVEL VARIABLES READ AS WHEN THE CALL BEGINS. Each datum BY PROGRAM (the guide's laid-datum.mjs) off the statement by which the dump's own 'gosem.cut.vars' lays the variable. In a bare row this is a premise. The card (YtglpjgbgomppjaaDoorCards.lean) ties it to the program's text. -/
def laid_thicket_scan_classes {H : Type} : DataW H := .agg [.lit (.int .u8 0), .lit (.int .u8 0), .lit (.int .u8 0), .lit (.int .u8 0), .lit (.int .u8 0), .lit (.int .u8 0), .lit (.int .u8 0), .lit (.int .u8 0), .lit (.int .u8 0), .lit (.int .u8 32), .lit (.int .u8 0), .lit (.int .u8 0), .lit (.int .u8 0), .lit (.int .u8 0), .lit (.int .u8 0), .lit (.int .u8 0), .lit (.int .u8 0), .lit (.int .u8 0), .lit (.int .u8 0), .lit (.int .u8 0), .lit (.int .u8 0), .lit (.int .u8 0), .lit (.int .u8 0), .lit (.int .u8 0), .lit (.int .u8 0), .lit (.int .u8 0), .lit (.int .u8 0), .lit (.int .u8 0), .lit (.int .u8 0), .lit (.int .u8 0), .lit (.int .u8 0), .lit (.int .u8 0), .lit (.int .u8 32), .lit (.int .u8 0), .lit (.int .u8 0), .lit (.int .u8 0), .lit (.int .u8 0), .lit (.int .u8 0), .lit (.int .u8 0), .lit (.int .u8 0), .lit (.int .u8 16), .lit (.int .u8 16), .lit (.int .u8 0), .lit (.int .u8 4), .lit (.int .u8 16), .lit (.int .u8 4), .lit (.int .u8 8), .lit (.int .u8 0), .lit (.int .u8 0), .lit (.int .u8 0), .lit (.int .u8 0), .lit (.int .u8 0), .lit (.int .u8 0), .lit (.int .u8 0), .lit (.int .u8 0), .lit (.int .u8 0), .lit (.int .u8 0), .lit (.int .u8 0), .lit (.int .u8 16), .lit (.int .u8 16), .lit (.int .u8 16), .lit (.int .u8 16), .lit (.int .u8 16), .lit (.int .u8 0), .lit (.int .u8 0), .lit (.int .u8 0), .lit (.int .u8 0), .lit (.int .u8 0), .lit (.int .u8 0), .lit (.int .u8 0), .lit (.int .u8 0), .lit (.int .u8 0), .lit (.int .u8 0), .lit (.int .u8 0), .lit (.int .u8 0), .lit (.int .u8 0), .lit (.int .u8 0), .lit (.int .u8 0), .lit (.int .u8 0), .lit (.int .u8 0), .lit (.int .u8 0), .lit (.int .u8 0), .lit (.int .u8 0), .lit (.int .u8 0), .lit (.int .u8 0), .lit (.int .u8 0), .lit (.int .u8 0), .lit (.int .u8 0), .lit (.int .u8 0), .lit (.int .u8 0), .lit (.int .u8 0), .lit (.int .u8 16), .lit (.int .u8 0), .lit (.int .u8 16), .lit (.int .u8 0), .lit (.int .u8 1), .lit (.int .u8 0), .lit (.int .u8 0), .lit (.int .u8 0), .lit (.int .u8 0), .lit (.int .u8 0), .lit (.int .u8 0), .lit (.int .u8 0), .lit (.int .u8 0), .lit (.int .u8 0), .lit (.int .u8 0), .lit (.int .u8 0), .lit (.int .u8 0), .lit (.int .u8 0), .lit (.int .u8 0), .lit (.int .u8 0), .lit (.int .u8 0), .lit (.int .u8 0), .lit (.int .u8 0), .lit (.int .u8 0), .lit (.int .u8 0), .lit (.int .u8 0), .lit (.int .u8 0), .lit (.int .u8 0), .lit (.int .u8 0), .lit (.int .u8 0), .lit (.int .u8 0), .lit (.int .u8 0), .lit (.int .u8 16), .lit (.int .u8 16), .lit (.int .u8 16), .lit (.int .u8 0), .lit (.int .u8 0)]

/-- 'thicketlaw08.RulesLimits': WHATEVER THE INPUT: true; the input reads as it did. -/
def rulesLimitsSpec : ChangeSpec := { name := "rulesLimits", fn := fun _ => fun
  | [] => { results := [.lit (.bool true)], args := [] }
  | _ => none }
def rulesLimitsRow : OpenClaim := { program := "ytglpjgbgomppjaadoor", sum := "7a465f124da9c217885a047db3e8d6efd645c20cd5fdfeb17290072e25bc9b6a", func := "thicket/thicketlaw08.RulesLimits", spec := "rulesLimits", inPlace := ["math.Float64bits"], unfollowed := true, recurses := true, named := ["thicket/scan.classes"], apart := false, laid := [("thicket/scan.classes", laid_thicket_scan_classes)] }
def RulesLimitsSaid : Prop := rulesLimitsRow.holds Tryd.pinned (OpenSpec.ofChange rulesLimitsSpec)

/-- ITS FALSE NEIGHBOUR: 'it returns false'. Refute it at one input. -/
def rulesLimitsWrong : ChangeSpec := { name := "rulesLimits", fn := fun _ => fun
  | [] => { results := [.lit (.bool false)], args := [] }
  | _ => none }
def RulesLimitsWrongFalsely : Prop := rulesLimitsRow.holds Tryd.pinned (OpenSpec.ofChange rulesLimitsWrong)

/-- 'thicketlaw08.RulesRooms': WHATEVER THE INPUT: true; the input reads as it did. -/
def rulesRoomsSpec : ChangeSpec := { name := "rulesRooms", fn := fun _ => fun
  | [d1, d2] => { results := [.lit (.bool true)], args := [d1, d2] }
  | _ => none }
def rulesRoomsRow : OpenClaim := { program := "ytglpjgbgomppjaadoor", sum := "7a465f124da9c217885a047db3e8d6efd645c20cd5fdfeb17290072e25bc9b6a", func := "thicket/thicketlaw08.RulesRooms", spec := "rulesRooms", inPlace := ["math.Float64bits"], unfollowed := true, recurses := true, named := ["thicket/scan.classes"], apart := false, laid := [("thicket/scan.classes", laid_thicket_scan_classes)] }
def RulesRoomsSaid : Prop := rulesRoomsRow.holds Tryd.pinned (OpenSpec.ofChange rulesRoomsSpec)

/-- ITS FALSE NEIGHBOUR: 'it returns false'. Refute it at one input. -/
def rulesRoomsWrong : ChangeSpec := { name := "rulesRooms", fn := fun _ => fun
  | [d1, d2] => { results := [.lit (.bool false)], args := [d1, d2] }
  | _ => none }
def RulesRoomsWrongFalsely : Prop := rulesRoomsRow.holds Tryd.pinned (OpenSpec.ofChange rulesRoomsWrong)

/-- 'thicketlaw08.RulesOwn': WHATEVER THE INPUT: true; the input reads as it did. -/
def rulesOwnSpec : ChangeSpec := { name := "rulesOwn", fn := fun _ => fun
  | [d1, d2] => { results := [.lit (.bool true)], args := [d1, d2] }
  | _ => none }
def rulesOwnRow : OpenClaim := { program := "ytglpjgbgomppjaadoor", sum := "7a465f124da9c217885a047db3e8d6efd645c20cd5fdfeb17290072e25bc9b6a", func := "thicket/thicketlaw08.RulesOwn", spec := "rulesOwn", inPlace := ["math.Float64bits"], unfollowed := true, recurses := true, named := ["thicket/scan.classes"], apart := false, laid := [("thicket/scan.classes", laid_thicket_scan_classes)] }
def RulesOwnSaid : Prop := rulesOwnRow.holds Tryd.pinned (OpenSpec.ofChange rulesOwnSpec)

/-- ITS FALSE NEIGHBOUR: 'it returns false'. Refute it at one input. -/
def rulesOwnWrong : ChangeSpec := { name := "rulesOwn", fn := fun _ => fun
  | [d1, d2] => { results := [.lit (.bool false)], args := [d1, d2] }
  | _ => none }
def RulesOwnWrongFalsely : Prop := rulesOwnRow.holds Tryd.pinned (OpenSpec.ofChange rulesOwnWrong)

/- THE SECOND FORM. 'bulk': how many values and letters a reading holds, each counted each time it is reached (what is shared counts as often as it is met; a slice's spare places count too). A statement '..UptoSaid' is the law's where the arguments, and the package variables that the reading takes, are together of bulk at most 1048576: NARROWER than '..Said'. Prove '..Said' where nothing that the law and all that it calls make is longer than what came in: it says more and counts as full. Else prove '..UptoSaid'. A law counts once. -/
mutual
def uptoBulk {H : Type} : DataW H → Nat
  | .lit (.string bytes) => bytes.length + 1
  | .lit _ => 1
  | .nil => 1
  | .ptr d => uptoBulk d + 1
  | .slice elems spare => uptoBulkAll elems + uptoBulkAll spare + 1
  | .agg parts => uptoBulkAll parts + 1
  | .iface _ d => uptoBulk d + 1
  | .map entries => uptoBulkEntries entries + 1
  | .held _ => 1
def uptoBulkAll {H : Type} : List (DataW H) → Nat
  | [] => 0
  | d :: r => uptoBulk d + uptoBulkAll r
def uptoBulkEntries {H : Type} : List (Lit × DataW H) → Nat
  | [] => 0
  | x :: r => uptoBulkEntry x + uptoBulkEntries r
def uptoBulkEntry {H : Type} : Lit × DataW H → Nat
  | (.string bytes, d) => bytes.length + uptoBulk d + 1
  | (_, d) => uptoBulk d + 1
 end
def uptoSmall : (H : Type) → List (DataW H) → Bool := fun _ ds => decide (uptoBulkAll ds ≤ 1048576)
def OpenSpec.upto (s : _root_.Go.ChangeSpec) : _root_.Go.OpenSpec := { _root_.Go.OpenSpec.ofChange s with cond := some uptoSmall }

/-- 'thicketlaw08.RulesLimits', WHERE WHAT IT READS IS OF BULK AT MOST 1048576: true; the input reads as it did. -/
def rulesLimitsUptoRow : OpenClaim := { program := "ytglpjgbgomppjaadoor", sum := "7a465f124da9c217885a047db3e8d6efd645c20cd5fdfeb17290072e25bc9b6a", func := "thicket/thicketlaw08.RulesLimits", spec := "rulesLimits", inPlace := ["math.Float64bits"], unfollowed := true, recurses := true, named := ["thicket/scan.classes"], apart := false, laid := [("thicket/scan.classes", laid_thicket_scan_classes)], narrowed := true }
def RulesLimitsUptoSaid : Prop := rulesLimitsUptoRow.holds Tryd.pinned (OpenSpec.upto rulesLimitsSpec)

/-- 'thicketlaw08.RulesRooms', WHERE WHAT IT READS IS OF BULK AT MOST 1048576: true; the input reads as it did. -/
def rulesRoomsUptoRow : OpenClaim := { program := "ytglpjgbgomppjaadoor", sum := "7a465f124da9c217885a047db3e8d6efd645c20cd5fdfeb17290072e25bc9b6a", func := "thicket/thicketlaw08.RulesRooms", spec := "rulesRooms", inPlace := ["math.Float64bits"], unfollowed := true, recurses := true, named := ["thicket/scan.classes"], apart := false, laid := [("thicket/scan.classes", laid_thicket_scan_classes)], narrowed := true }
def RulesRoomsUptoSaid : Prop := rulesRoomsUptoRow.holds Tryd.pinned (OpenSpec.upto rulesRoomsSpec)

/-- 'thicketlaw08.RulesOwn', WHERE WHAT IT READS IS OF BULK AT MOST 1048576: true; the input reads as it did. -/
def rulesOwnUptoRow : OpenClaim := { program := "ytglpjgbgomppjaadoor", sum := "7a465f124da9c217885a047db3e8d6efd645c20cd5fdfeb17290072e25bc9b6a", func := "thicket/thicketlaw08.RulesOwn", spec := "rulesOwn", inPlace := ["math.Float64bits"], unfollowed := true, recurses := true, named := ["thicket/scan.classes"], apart := false, laid := [("thicket/scan.classes", laid_thicket_scan_classes)], narrowed := true }
def RulesOwnUptoSaid : Prop := rulesOwnUptoRow.holds Tryd.pinned (OpenSpec.upto rulesOwnSpec)

end Rows
end Go.Proofs.YtglpjgbgomppjaaDoor
