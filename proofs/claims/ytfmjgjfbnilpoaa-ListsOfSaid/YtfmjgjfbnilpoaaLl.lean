/-
 trees.Leaves, masks.leaves.
-/
import Derived.Test.YtfmjgjfbnilpoaaZq
import Derived.Test.YtfmjgjfbnilpoaaTh
import Derived.Test.YtfmjgjfbnilpoaaTi
import Derived.Test.YtfmjgjfbnilpoaaEs
namespace Go.Proofs.Ytfmjgjfbnilpoaa.FAll
open Go.RowKit Go.Shelf YtfmjgjfbnilpoaaW.PrintWords YtfmjgjfbnilpoaaW.PrintLast YtfmjgjfbnilpoaaW.PrintMore BTree
attribute [local go_sem] fstore_walk
set_option linter.unusedVariables false
set_option linter.unusedSimpArgs false
def leavesL (ns : List S71) (T : BT) : List Int := (took ns false (T.preD 0)).map fun i : Nat => (i : Int)
theorem R_took {w : World} {b : Nat} {v : Value} {l : List Nat} (h : w.ownsRow b 3 1 v l.length (l.map encN)) : Kd.R (Kd.int .i64) 3 w b (fun _ => True) v (l.map fun i : Nat => (i : Int)) := by
 refine Kd.R_of_own (enc := Value.int .i64) ?_ (fun _ _ => trivial)
 have e : encs (Value.int .i64) (l.map fun i : Nat => (i : Int)) = l.map encN := by unfold encs; rw [List.map_map]; rfl
 rw [e, List.length_map]
 exact h
set_option maxHeartbeats 1000000 in
theorem leaves_ok (w : World) (t0 : Int) (A1 : Option Addr) (c1 : Nat) (ns : List S71) (T : BT) (k : Nat) (hns : Aside0 (Kd.C k71 w A1 ns.length ns)) (hc1 : Aside0 (ns.length ≤ c1)) (KS : Aside0 (trees_Shape.f k t0 ns = some (0, 0))) (hT : Aside0 (TreeIs ns T)) (hlen : Aside0 (ns.length ≤ 1759218604441)) :
  Calls Try.prog 41 #[.agg #[.int .i64 t0, .slice A1 ns.length c1]] w fun e w' => ∃ v, e = .returned (.tuple #[v, .int .i64 0]) ∧ Kd.R (Kd.int .i64) 3 w' w.heap.size (fun _ => True) v (leavesL ns T) ∧ Below w.heap.size w w' := by
 go_enter Try.func41, Try.ntmps41
 go_wp2_with (go_at_call 60; refine (those_ok _ t0 A1 c1 ns false T k ⟨Kd.C_below hns.out (below_alloc (Below.refl w.heap.size w) _)⟩ hc1 KS hT hlen).mono ?_; rintro e w3 ⟨v, rfl, hr, hb⟩; have HR := aS_ hr; have HB := aS_ (below_step (below_alloc (Below.refl w.heap.size w) _) hb); clear hr hb)
 go_ret2
 exact ⟨v, rfl, R_took (own_weaken HR.out (by rw [World.size_alloc]; exact Nat.le_succ _)), HB.out⟩
theorem took_len (ns : List S71) (b : Bool) (T : BT) (hT : TreeIs ns T) : (took ns b (T.preD 0)).length ≤ ns.length := by
 unfold took
 refine Nat.le_trans (List.length_filter_le _ _) ?_
 rw [T.preD_fst]
 exact hT.few
section
variable (t0 : Int) (A1 : Option Addr) (c1 : Nat) (ns : List S71) (k : Nat) (r1 r2 : Int)
set_option maxHeartbeats 1000000 in
theorem those_bad (w : World) (b : Bool) (hns : Aside0 (Kd.C k71 w A1 ns.length ns)) (hc1 : Aside0 (ns.length ≤ c1)) (KS : Aside0 (trees_Shape.f k t0 ns = some (r1, r2))) (hr : r1 ≠ 0) :
  Calls Try.prog 60 #[.agg #[.int .i64 t0, .slice A1 ns.length c1], .bool b] w fun e w' => e = .returned (.tuple #[.slice none 0 0, .int .i64 r1]) ∧ Below w.heap.size w w' := by
 have c1_ : (r1 != 0) = true := bne_iff_ne.mpr hr
 have c2_ : (r1 = 0) = False := eq_false hr
 clear hr
 go_enter Try.func60, Try.ntmps60
 go_wp2_with (go_at_call 67; refine (trees_Shape.calls k t0 A1 c1 ns r1 r2 _ (Kd.C_below hns.out (below_alloc (below_alloc (Below.refl w.heap.size w) _) _)) hc1.out KS.out).mono ?_; rintro e w5 ⟨rfl, hb⟩; have HB := aS_ (below_step (below_alloc (below_alloc (Below.refl w.heap.size w) _) _) hb); clear hb)
 go_ret2
 exact ⟨rfl, HB.out⟩
set_option maxHeartbeats 1000000 in
theorem leaves_bad (w : World) (hns : Aside0 (Kd.C k71 w A1 ns.length ns)) (hc1 : Aside0 (ns.length ≤ c1)) (KS : Aside0 (trees_Shape.f k t0 ns = some (r1, r2))) (hr : r1 ≠ 0) :
  Calls Try.prog 41 #[.agg #[.int .i64 t0, .slice A1 ns.length c1]] w fun e w' => e = .returned (.tuple #[.slice none 0 0, .int .i64 r1]) ∧ Below w.heap.size w w' := by
 go_enter Try.func41, Try.ntmps41
 go_wp2_with (go_at_call 60; refine (those_bad t0 A1 c1 ns k r1 r2 _ false ⟨Kd.C_below hns.out (below_alloc (Below.refl w.heap.size w) _)⟩ hc1 KS hr).mono ?_; rintro e w3 ⟨rfl, hb⟩; have HB := aS_ (below_step (below_alloc (Below.refl w.heap.size w) _) hb); clear hb)
 go_ret2
 exact ⟨rfl, HB.out⟩
set_option maxHeartbeats 1000000 in
theorem masks_leaves (w : World) (T : BT) (hns : Aside0 (Kd.C k71 w A1 ns.length ns)) (hc1 : Aside0 (ns.length ≤ c1)) (KS : Aside0 (trees_Shape.f k t0 ns = some (0, 0))) (hT : Aside0 (TreeIs ns T)) (hlen : Aside0 (ns.length ≤ 1759218604441)) (hfew : (leavesL ns T).length ≤ 4096) :
  Calls Try.prog 42 #[.agg #[.int .i64 t0, .slice A1 ns.length c1]] w fun e w' => e = .returned (.tuple #[.int .i64 (leavesL ns T).length, .int .i64 0]) ∧ Below w.heap.size w w' := by
 have c1_ : decide (((leavesL ns T).length : Int) > 4096) = false := decide_eq_false (by omega)
 clear hfew
 go_enter Try.func42, Try.ntmps42
 go_wp2_with (go_at_call 41; refine (leaves_ok _ t0 A1 c1 ns T k ⟨Kd.C_below hns.out (below_alloc (Below.refl w.heap.size w) _)⟩ hc1 KS hT hlen).mono ?_; rintro e w3 ⟨v, rfl, hr, hb⟩; obtain ⟨AL, cL, rfl, lL, gL⟩ := Kd.R_reads hr; have HB := aS_ (below_step (below_alloc (Below.refl w.heap.size w) _) hb); clear hb hr gL lL)
 go_ret2
 exact ⟨rfl, HB.out⟩
end
end Go.Proofs.Ytfmjgjfbnilpoaa.FAll
