/-
  No cell of these rows narrows 'for every input' (looked for: loops, veiled, ifaces, maps, wideKeys, modest, calm, conditions, laid).
  DERIVED. THE GIVEN ROWS OF THIS SEAT. 9 by the template 'for every input the law returns true; each argument reads behind the call as it read before'; 0 by the template 'total and deterministic' (their statements: YtdjmdnppkchgmaaTotals.lean).
  GIVEN WITH THE SEED: the statements are not yours to turn. If you find one false, say at which input.
  Laid BY PROGRAM, IN A SANDBOX (cutbox-rows.mjs): the forced cells as the released guide's own fill.sh prints them over the translation 7668933fb10f9a71… (all of the seat's roots in one cut). By AI agents, Wed Nov 11 2026. No macro, syntax, notation, axiom, sorry.
-/
import Derived.Test.YtdjmdnppkchgmaaChecked
import GoSem.Claim
import GoSem.ClaimJoined
import GoSem.ClaimMapViews
import Derived.JoinedTies
import Derived.KernelRfl
namespace Go.Proofs.Ytdjmdnppkchgmaa
/- THE CELL 'sum', in the pinned program and in every row, IS THE sha256 OF THE DUMP (.gsa) THAT YtdjmdnppkchgmaaProg.lean LOADS. Nothing in Lean hashes anything: it is a label: what it is worth is what the hold of that sum in a sandbox is worth. -/
noncomputable def Try.pinned : Pinned := { name := "ytdjmdnppkchgmaa", sum := "7668933fb10f9a7116f37134d4e838df779706a5d8bd15dc54fb0317049319be", checked := Try.checked }
namespace Rows
def none {H : Type} : Left H := { results := [], args := [] }

/-- 'thicketlaw06.OrderKeys': WHATEVER THE INPUT: true; the input reads as it did. -/
def orderKeysSpec : ChangeSpec := { name := "orderKeys", fn := fun _ => fun
  | [d1, d2] => { results := [.lit (.bool true)], args := [d1, d2] }
  | _ => none }
def orderKeysRow : OpenClaim := { program := "ytdjmdnppkchgmaa", sum := "7668933fb10f9a7116f37134d4e838df779706a5d8bd15dc54fb0317049319be", func := "thicket/thicketlaw06.OrderKeys", spec := "orderKeys", inPlace := ["math.Float64frombits", "math.Float64bits"], apart := false }
def OrderKeysSaid : Prop := orderKeysRow.holds Try.pinned (OpenSpec.ofChange orderKeysSpec)

/-- ITS FALSE NEIGHBOUR: 'it returns false'. Refute it at one input. -/
def orderKeysWrong : ChangeSpec := { name := "orderKeys", fn := fun _ => fun
  | [d1, d2] => { results := [.lit (.bool false)], args := [d1, d2] }
  | _ => none }
def OrderKeysWrongFalsely : Prop := orderKeysRow.holds Try.pinned (OpenSpec.ofChange orderKeysWrong)

/-- 'thicketlaw06.OrderLine': WHATEVER THE INPUT: true; the input reads as it did. -/
def orderLineSpec : ChangeSpec := { name := "orderLine", fn := fun _ => fun
  | [d1, d2, d3] => { results := [.lit (.bool true)], args := [d1, d2, d3] }
  | _ => none }
def orderLineRow : OpenClaim := { program := "ytdjmdnppkchgmaa", sum := "7668933fb10f9a7116f37134d4e838df779706a5d8bd15dc54fb0317049319be", func := "thicket/thicketlaw06.OrderLine", spec := "orderLine", inPlace := ["math.Float64bits", "math.Float64frombits"], apart := false }
def OrderLineSaid : Prop := orderLineRow.holds Try.pinned (OpenSpec.ofChange orderLineSpec)

/-- ITS FALSE NEIGHBOUR: 'it returns false'. Refute it at one input. -/
def orderLineWrong : ChangeSpec := { name := "orderLine", fn := fun _ => fun
  | [d1, d2, d3] => { results := [.lit (.bool false)], args := [d1, d2, d3] }
  | _ => none }
def OrderLineWrongFalsely : Prop := orderLineRow.holds Try.pinned (OpenSpec.ofChange orderLineWrong)

/-- 'thicketlaw06.OrderNarrows': WHATEVER THE INPUT: true; the input reads as it did. -/
def orderNarrowsSpec : ChangeSpec := { name := "orderNarrows", fn := fun _ => fun
  | [d] => { results := [.lit (.bool true)], args := [d] }
  | _ => none }
def orderNarrowsRow : OpenClaim := { program := "ytdjmdnppkchgmaa", sum := "7668933fb10f9a7116f37134d4e838df779706a5d8bd15dc54fb0317049319be", func := "thicket/thicketlaw06.OrderNarrows", spec := "orderNarrows", inPlace := ["math.Float64frombits", "math.Float32bits", "math.Float32frombits", "math.Float64bits"], apart := false }
def OrderNarrowsSaid : Prop := orderNarrowsRow.holds Try.pinned (OpenSpec.ofChange orderNarrowsSpec)

/-- ITS FALSE NEIGHBOUR: 'it returns false'. Refute it at one input. -/
def orderNarrowsWrong : ChangeSpec := { name := "orderNarrows", fn := fun _ => fun
  | [d] => { results := [.lit (.bool false)], args := [d] }
  | _ => none }
def OrderNarrowsWrongFalsely : Prop := orderNarrowsRow.holds Try.pinned (OpenSpec.ofChange orderNarrowsWrong)

/-- 'thicketlaw06.OrderSteps': WHATEVER THE INPUT: true; the input reads as it did. -/
def orderStepsSpec : ChangeSpec := { name := "orderSteps", fn := fun _ => fun
  | [d1, d2] => { results := [.lit (.bool true)], args := [d1, d2] }
  | _ => none }
def orderStepsRow : OpenClaim := { program := "ytdjmdnppkchgmaa", sum := "7668933fb10f9a7116f37134d4e838df779706a5d8bd15dc54fb0317049319be", func := "thicket/thicketlaw06.OrderSteps", spec := "orderSteps", inPlace := ["math.Float64frombits", "math.Float64bits"], apart := false }
def OrderStepsSaid : Prop := orderStepsRow.holds Try.pinned (OpenSpec.ofChange orderStepsSpec)

/-- ITS FALSE NEIGHBOUR: 'it returns false'. Refute it at one input. -/
def orderStepsWrong : ChangeSpec := { name := "orderSteps", fn := fun _ => fun
  | [d1, d2] => { results := [.lit (.bool false)], args := [d1, d2] }
  | _ => none }
def OrderStepsWrongFalsely : Prop := orderStepsRow.holds Try.pinned (OpenSpec.ofChange orderStepsWrong)

/-- 'thicketlaw06.OrderNeighbours': WHATEVER THE INPUT: true; the input reads as it did. -/
def orderNeighboursSpec : ChangeSpec := { name := "orderNeighbours", fn := fun _ => fun
  | [d1, d2] => { results := [.lit (.bool true)], args := [d1, d2] }
  | _ => none }
def orderNeighboursRow : OpenClaim := { program := "ytdjmdnppkchgmaa", sum := "7668933fb10f9a7116f37134d4e838df779706a5d8bd15dc54fb0317049319be", func := "thicket/thicketlaw06.OrderNeighbours", spec := "orderNeighbours", inPlace := ["math.Float64bits", "math.Float64frombits"], apart := false }
def OrderNeighboursSaid : Prop := orderNeighboursRow.holds Try.pinned (OpenSpec.ofChange orderNeighboursSpec)

/-- ITS FALSE NEIGHBOUR: 'it returns false'. Refute it at one input. -/
def orderNeighboursWrong : ChangeSpec := { name := "orderNeighbours", fn := fun _ => fun
  | [d1, d2] => { results := [.lit (.bool false)], args := [d1, d2] }
  | _ => none }
def OrderNeighboursWrongFalsely : Prop := orderNeighboursRow.holds Try.pinned (OpenSpec.ofChange orderNeighboursWrong)

/-- 'thicketlaw06.OrderGrid': WHATEVER THE INPUT: true; the input reads as it did. -/
def orderGridSpec : ChangeSpec := { name := "orderGrid", fn := fun _ => fun
  | [d1, d2] => { results := [.lit (.bool true)], args := [d1, d2] }
  | _ => none }
def orderGridRow : OpenClaim := { program := "ytdjmdnppkchgmaa", sum := "7668933fb10f9a7116f37134d4e838df779706a5d8bd15dc54fb0317049319be", func := "thicket/thicketlaw06.OrderGrid", spec := "orderGrid", inPlace := ["math.Float64bits", "math.Float64frombits", "math.Float32frombits", "math.Float32bits"], apart := false }
def OrderGridSaid : Prop := orderGridRow.holds Try.pinned (OpenSpec.ofChange orderGridSpec)

/-- ITS FALSE NEIGHBOUR: 'it returns false'. Refute it at one input. -/
def orderGridWrong : ChangeSpec := { name := "orderGrid", fn := fun _ => fun
  | [d1, d2] => { results := [.lit (.bool false)], args := [d1, d2] }
  | _ => none }
def OrderGridWrongFalsely : Prop := orderGridRow.holds Try.pinned (OpenSpec.ofChange orderGridWrong)

/-- 'thicketlaw06.OrderLists': WHATEVER THE INPUT: true; the input reads as it did. -/
def orderListsSpec : ChangeSpec := { name := "orderLists", fn := fun _ => fun
  | [d1, d2] => { results := [.lit (.bool true)], args := [d1, d2] }
  | _ => none }
def orderListsRow : OpenClaim := { program := "ytdjmdnppkchgmaa", sum := "7668933fb10f9a7116f37134d4e838df779706a5d8bd15dc54fb0317049319be", func := "thicket/thicketlaw06.OrderLists", spec := "orderLists", inPlace := ["math.Float64frombits", "math.Float64bits"], unfollowed := true, recurses := true, apart := false }
def OrderListsSaid : Prop := orderListsRow.holds Try.pinned (OpenSpec.ofChange orderListsSpec)

/-- ITS FALSE NEIGHBOUR: 'it returns false'. Refute it at one input. -/
def orderListsWrong : ChangeSpec := { name := "orderLists", fn := fun _ => fun
  | [d1, d2] => { results := [.lit (.bool false)], args := [d1, d2] }
  | _ => none }
def OrderListsWrongFalsely : Prop := orderListsRow.holds Try.pinned (OpenSpec.ofChange orderListsWrong)

/-- 'thicketlaw06.OrderSorts': WHATEVER THE INPUT: true; the input reads as it did. -/
def orderSortsSpec : ChangeSpec := { name := "orderSorts", fn := fun _ => fun
  | [d1, d2] => { results := [.lit (.bool true)], args := [d1, d2] }
  | _ => none }
def orderSortsRow : OpenClaim := { program := "ytdjmdnppkchgmaa", sum := "7668933fb10f9a7116f37134d4e838df779706a5d8bd15dc54fb0317049319be", func := "thicket/thicketlaw06.OrderSorts", spec := "orderSorts", inPlace := ["math.Float64bits", "math.Float64frombits"], unfollowed := true, recurses := true, apart := false }
def OrderSortsSaid : Prop := orderSortsRow.holds Try.pinned (OpenSpec.ofChange orderSortsSpec)

/-- ITS FALSE NEIGHBOUR: 'it returns false'. Refute it at one input. -/
def orderSortsWrong : ChangeSpec := { name := "orderSorts", fn := fun _ => fun
  | [d1, d2] => { results := [.lit (.bool false)], args := [d1, d2] }
  | _ => none }
def OrderSortsWrongFalsely : Prop := orderSortsRow.holds Try.pinned (OpenSpec.ofChange orderSortsWrong)

/-- 'thicketlaw06.OrderOwn': WHATEVER THE INPUT: true; the input reads as it did. -/
def orderOwnSpec : ChangeSpec := { name := "orderOwn", fn := fun _ => fun
  | [d] => { results := [.lit (.bool true)], args := [d] }
  | _ => none }
def orderOwnRow : OpenClaim := { program := "ytdjmdnppkchgmaa", sum := "7668933fb10f9a7116f37134d4e838df779706a5d8bd15dc54fb0317049319be", func := "thicket/thicketlaw06.OrderOwn", spec := "orderOwn", inPlace := ["math.Float64bits", "math.Float64frombits"], unfollowed := true, recurses := true, apart := false }
def OrderOwnSaid : Prop := orderOwnRow.holds Try.pinned (OpenSpec.ofChange orderOwnSpec)

/-- ITS FALSE NEIGHBOUR: 'it returns false'. Refute it at one input. -/
def orderOwnWrong : ChangeSpec := { name := "orderOwn", fn := fun _ => fun
  | [d] => { results := [.lit (.bool false)], args := [d] }
  | _ => none }
def OrderOwnWrongFalsely : Prop := orderOwnRow.holds Try.pinned (OpenSpec.ofChange orderOwnWrong)

/- THE SECOND FORM. 'bulk': how many values and letters a reading holds, each counted each time it is reached (what is shared counts as often as it is met; a slice's spare places count too). A statement '..UptoSaid' is the law's where the arguments, and the package variables that the reading takes, are together of bulk at most 1048576: NARROWER than '..Said'. Prove '..Said' where nothing that the law and all that it calls make is longer than what came in: it says more and counts as full. Else prove '..UptoSaid'. A law counts once. -/
mutual
def uptoBulk {H : Type} : DataW H → Nat
  | .lit (.string bytes) => bytes.length + 1
  | .lit _ => 1
  | .nil => 1
  | .ptr d => uptoBulk d + 1
  | .slice elems spare => uptoBulkAll elems + uptoBulkAll spare + 1
  | .agg parts => uptoBulkAll parts + 1
  | .iface _ d => uptoBulk d + 1
  | .map entries => uptoBulkEntries entries + 1
  | .held _ => 1
def uptoBulkAll {H : Type} : List (DataW H) → Nat
  | [] => 0
  | d :: r => uptoBulk d + uptoBulkAll r
def uptoBulkEntries {H : Type} : List (Lit × DataW H) → Nat
  | [] => 0
  | x :: r => uptoBulkEntry x + uptoBulkEntries r
def uptoBulkEntry {H : Type} : Lit × DataW H → Nat
  | (.string bytes, d) => bytes.length + uptoBulk d + 1
  | (_, d) => uptoBulk d + 1
 end
def uptoSmall : (H : Type) → List (DataW H) → Bool := fun _ ds => decide (uptoBulkAll ds ≤ 1048576)
def OpenSpec.upto (s : _root_.Go.ChangeSpec) : _root_.Go.OpenSpec := { _root_.Go.OpenSpec.ofChange s with cond := some uptoSmall }

/-- 'thicketlaw06.OrderKeys', WHERE WHAT IT READS IS OF BULK AT MOST 1048576: true; the input reads as it did. -/
def orderKeysUptoRow : OpenClaim := { program := "ytdjmdnppkchgmaa", sum := "7668933fb10f9a7116f37134d4e838df779706a5d8bd15dc54fb0317049319be", func := "thicket/thicketlaw06.OrderKeys", spec := "orderKeys", inPlace := ["math.Float64frombits", "math.Float64bits"], apart := false, narrowed := true }
def OrderKeysUptoSaid : Prop := orderKeysUptoRow.holds Try.pinned (OpenSpec.upto orderKeysSpec)

/-- 'thicketlaw06.OrderLine', WHERE WHAT IT READS IS OF BULK AT MOST 1048576: true; the input reads as it did. -/
def orderLineUptoRow : OpenClaim := { program := "ytdjmdnppkchgmaa", sum := "7668933fb10f9a7116f37134d4e838df779706a5d8bd15dc54fb0317049319be", func := "thicket/thicketlaw06.OrderLine", spec := "orderLine", inPlace := ["math.Float64bits", "math.Float64frombits"], apart := false, narrowed := true }
def OrderLineUptoSaid : Prop := orderLineUptoRow.holds Try.pinned (OpenSpec.upto orderLineSpec)

/-- 'thicketlaw06.OrderNarrows', WHERE WHAT IT READS IS OF BULK AT MOST 1048576: true; the input reads as it did. -/
def orderNarrowsUptoRow : OpenClaim := { program := "ytdjmdnppkchgmaa", sum := "7668933fb10f9a7116f37134d4e838df779706a5d8bd15dc54fb0317049319be", func := "thicket/thicketlaw06.OrderNarrows", spec := "orderNarrows", inPlace := ["math.Float64frombits", "math.Float32bits", "math.Float32frombits", "math.Float64bits"], apart := false, narrowed := true }
def OrderNarrowsUptoSaid : Prop := orderNarrowsUptoRow.holds Try.pinned (OpenSpec.upto orderNarrowsSpec)

/-- 'thicketlaw06.OrderSteps', WHERE WHAT IT READS IS OF BULK AT MOST 1048576: true; the input reads as it did. -/
def orderStepsUptoRow : OpenClaim := { program := "ytdjmdnppkchgmaa", sum := "7668933fb10f9a7116f37134d4e838df779706a5d8bd15dc54fb0317049319be", func := "thicket/thicketlaw06.OrderSteps", spec := "orderSteps", inPlace := ["math.Float64frombits", "math.Float64bits"], apart := false, narrowed := true }
def OrderStepsUptoSaid : Prop := orderStepsUptoRow.holds Try.pinned (OpenSpec.upto orderStepsSpec)

/-- 'thicketlaw06.OrderNeighbours', WHERE WHAT IT READS IS OF BULK AT MOST 1048576: true; the input reads as it did. -/
def orderNeighboursUptoRow : OpenClaim := { program := "ytdjmdnppkchgmaa", sum := "7668933fb10f9a7116f37134d4e838df779706a5d8bd15dc54fb0317049319be", func := "thicket/thicketlaw06.OrderNeighbours", spec := "orderNeighbours", inPlace := ["math.Float64bits", "math.Float64frombits"], apart := false, narrowed := true }
def OrderNeighboursUptoSaid : Prop := orderNeighboursUptoRow.holds Try.pinned (OpenSpec.upto orderNeighboursSpec)

/-- 'thicketlaw06.OrderGrid', WHERE WHAT IT READS IS OF BULK AT MOST 1048576: true; the input reads as it did. -/
def orderGridUptoRow : OpenClaim := { program := "ytdjmdnppkchgmaa", sum := "7668933fb10f9a7116f37134d4e838df779706a5d8bd15dc54fb0317049319be", func := "thicket/thicketlaw06.OrderGrid", spec := "orderGrid", inPlace := ["math.Float64bits", "math.Float64frombits", "math.Float32frombits", "math.Float32bits"], apart := false, narrowed := true }
def OrderGridUptoSaid : Prop := orderGridUptoRow.holds Try.pinned (OpenSpec.upto orderGridSpec)

/-- 'thicketlaw06.OrderLists', WHERE WHAT IT READS IS OF BULK AT MOST 1048576: true; the input reads as it did. -/
def orderListsUptoRow : OpenClaim := { program := "ytdjmdnppkchgmaa", sum := "7668933fb10f9a7116f37134d4e838df779706a5d8bd15dc54fb0317049319be", func := "thicket/thicketlaw06.OrderLists", spec := "orderLists", inPlace := ["math.Float64frombits", "math.Float64bits"], unfollowed := true, recurses := true, apart := false, narrowed := true }
def OrderListsUptoSaid : Prop := orderListsUptoRow.holds Try.pinned (OpenSpec.upto orderListsSpec)

/-- 'thicketlaw06.OrderSorts', WHERE WHAT IT READS IS OF BULK AT MOST 1048576: true; the input reads as it did. -/
def orderSortsUptoRow : OpenClaim := { program := "ytdjmdnppkchgmaa", sum := "7668933fb10f9a7116f37134d4e838df779706a5d8bd15dc54fb0317049319be", func := "thicket/thicketlaw06.OrderSorts", spec := "orderSorts", inPlace := ["math.Float64bits", "math.Float64frombits"], unfollowed := true, recurses := true, apart := false, narrowed := true }
def OrderSortsUptoSaid : Prop := orderSortsUptoRow.holds Try.pinned (OpenSpec.upto orderSortsSpec)

/-- 'thicketlaw06.OrderOwn', WHERE WHAT IT READS IS OF BULK AT MOST 1048576: true; the input reads as it did. -/
def orderOwnUptoRow : OpenClaim := { program := "ytdjmdnppkchgmaa", sum := "7668933fb10f9a7116f37134d4e838df779706a5d8bd15dc54fb0317049319be", func := "thicket/thicketlaw06.OrderOwn", spec := "orderOwn", inPlace := ["math.Float64bits", "math.Float64frombits"], unfollowed := true, recurses := true, apart := false, narrowed := true }
def OrderOwnUptoSaid : Prop := orderOwnUptoRow.holds Try.pinned (OpenSpec.upto orderOwnSpec)

end Rows
end Go.Proofs.Ytdjmdnppkchgmaa
