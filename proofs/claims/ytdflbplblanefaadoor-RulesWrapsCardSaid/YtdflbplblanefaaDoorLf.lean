/-
  trees.Leaves and trees.Leaf of a good tree.
-/
import Derived.Test.YtdflbplblanefaaDoorTh
import Derived.Test.YtdflbplblanefaaDoorTi
import Derived.Test.YtdflbplblanefaaDoorFAllx4
namespace Go.Proofs.YtdflbplblanefaaDoor.FAll
open Go.RowKit Go.Shelf Go.Proofs.YtdflbplblanefaaDoorW.PrintWords Go.Proofs.YtdflbplblanefaaDoorW.PrintLast Go.Proofs.YtdflbplblanefaaDoorW.PrintMore BTree
attribute [local go_sem] fstore_walk
set_option linter.unusedVariables false
set_option linter.unusedSimpArgs false
theorem index_some (l : List Int) (x : Int) (hl : l.length ≤ 1000000000000) : ∀ d i : Nat, i + d = l.length → ∃ k r, slices_Index_int_int.l0 k l x (l.length : Int) (i : Int) = some r := by
  intro d
  induction d with
  | zero =>
    intro i hi
    refine ⟨1, -1, ?_⟩
    show (if (i : Int) < (l.length : Int) then _ else _) = _
    rw [if_neg (by omega)]
  | succ d ih =>
    intro i hi
    obtain ⟨k, r, h⟩ := ih (i + 1) (by omega)
    have e : wrap64 ((i : Int) + 1) = ((i + 1 : Nat) : Int) := by unfold wrap64; omega
    by_cases hx : x = rd l (i : Int)
    · refine ⟨k + 1, (i : Int), ?_⟩
      show (if (i : Int) < (l.length : Int) then (if (0 : Int) ≤ i then (if (i : Int) < (l.length : Int) then (if x = rd l (i : Int) then _ else _) else _) else _) else _) = _
      rw [if_pos (by omega), if_pos (by omega), if_pos (by omega), if_pos hx]
    · refine ⟨k + 1, r, ?_⟩
      show (if (i : Int) < (l.length : Int) then (if (0 : Int) ≤ i then (if (i : Int) < (l.length : Int) then (if x = rd l (i : Int) then _ else _) else _) else _) else _) = _
      rw [if_pos (by omega), if_pos (by omega), if_pos (by omega), if_neg hx, e]
      exact h
def leavesL (ns : List S61) (T : BT) : List Int := (took ns false (T.preD 0)).map fun i : Nat => (i : Int)
theorem R_took {w : World} {b : Nat} {v : Value} {l : List Nat} (h : w.ownsRow b 3 1 v l.length (l.map encN)) : Kd.R (Kd.int .i64) 3 w b (fun _ => True) v (l.map fun i : Nat => (i : Int)) := by
  refine Kd.R_of_own (enc := Value.int .i64) ?_ (fun _ _ => trivial)
  have e : encs (Value.int .i64) (l.map fun i : Nat => (i : Int)) = l.map encN := by unfold encs; rw [List.map_map]; rfl
  rw [e, List.length_map]
  exact h
set_option maxHeartbeats 1000000 in
theorem leaves_ok (w : World) (t0 : Int) (A1 : Option Addr) (c1 : Nat) (ns : List S61) (T : BT) (k : Nat) (hns : Aside0 (Kd.C k61 w A1 ns.length ns)) (hc1 : Aside0 (ns.length ≤ c1)) (KS : Aside0 (trees_Shape.f k t0 ns = some (0, 0))) (hT : Aside0 (TreeIs ns T)) (hlen : Aside0 (ns.length ≤ 1000000000000)) :
    Calls Tryd.prog 16 #[.agg #[.int .i64 t0, .slice A1 ns.length c1]] w fun e w' => ∃ v, e = .returned (.tuple #[v, .int .i64 0]) ∧ Kd.R (Kd.int .i64) 3 w' w.heap.size (fun _ => True) v (leavesL ns T) ∧ Below w.heap.size w w' := by
  go_enter Tryd.func16, Tryd.ntmps16
  go_wp2_with (go_at_call 39; refine (those_ok _ t0 A1 c1 ns false T k ⟨Kd.C_below hns.out (below_alloc (Below.refl w.heap.size w) _)⟩ hc1 KS hT hlen).mono ?_; rintro e w3 ⟨v, rfl, hr, hb⟩; have HR := Aside0.mk hr; have HB := Aside0.mk (below_step (below_alloc (Below.refl w.heap.size w) _) hb); clear hr hb)
  go_ret2
  exact ⟨v, rfl, R_took (own_weaken HR.out (by rw [World.size_alloc]; exact Nat.le_succ _)), HB.out⟩
theorem took_len (ns : List S61) (b : Bool) (T : BT) (hT : TreeIs ns T) : (took ns b (T.preD 0)).length ≤ ns.length := by
  unfold took
  refine Nat.le_trans (List.length_filter_le _ _) ?_
  rw [T.preD_fst]
  exact hT.few
set_option maxHeartbeats 4000000 in
set_option maxRecDepth 100000 in
theorem leaf_ok (w : World) (t0 : Int) (A1 : Option Addr) (c1 : Nat) (ns : List S61) (AX : Option Addr) (cX : Nat) (xs : List Nat) (T : BT) (k m : Nat) (hns : Aside0 (Kd.C k61 w A1 ns.length ns)) (hc1 : Aside0 (ns.length ≤ c1)) (hxs : Aside0 (Kd.f64.C w AX xs.length xs)) (KS : Aside0 (trees_Shape.f k t0 ns = some (0, 0)))
    (HF : Aside0 (∀ j : Nat, j < ns.length → innerB (rd_T61 ns (j : Int)) = true → 0 ≤ (rd_T61 ns (j : Int)).f2 ∧ (rd_T61 ns (j : Int)).f2 < (xs.length : Int))) (HW : Aside0 (WayOk ns xs m)) (HM : Aside0 (m ≤ 1000000000)) (hT : Aside0 (TreeIs ns T)) (hlen : Aside0 (ns.length ≤ 1000000000000)) :
    Calls Tryd.prog 7 #[.agg #[.int .i64 t0, .slice A1 ns.length c1], .slice AX xs.length cX] w fun e w' => ∃ z, e = .returned (.tuple #[.int .i64 z, .int .i64 (rd_T61 ns (wayI ns xs m)).f1, .int .i64 0]) ∧ Below w.heap.size w w' := by
  obtain ⟨q, hq⟩ : ∃ q, q = wayI ns xs m := ⟨_, rfl⟩
  obtain ⟨q0, q1⟩ := HW.out.lies m (Nat.le_refl _)
  rw [← hq] at q0 q1 ⊢
  obtain ⟨an, A4, c4, ean, _, en, _⟩ := at_T61 hns.out q q0 q1
  subst ean
  have hi7 : wrap64 ((m : Nat) : Int) = ((m : Nat) : Int) := by have := HM.out; unfold wrap64; omega
  have p7 : ((0 : Int) ≤ ((m : Nat) : Int)) = True := eq_true (Int.natCast_nonneg _)
  have q7 : (((m : Nat) : Int) < ((m : Nat) : Int) + 1) = True := eq_true (Int.lt_succ _)
  have HQ := Aside0.mk hq
  have EN := Aside0.mk en
  clear hq en
  go_enter Tryd.func7, Tryd.ntmps7
  go_wp2_with (first | (go_at_call 15; refine (trees_Way.calls t0 (some an) c1 ns AX cX xs k m _ ⟨Kd.C_below hns.out (below_alloc (Below.refl w.heap.size w) _)⟩ hc1 ⟨Kd.C_below hxs.out (below_alloc (Below.refl w.heap.size w) _)⟩ KS HF HW HM).mono ?_; rintro e w2 ⟨AW, cW, rfl, gW, lW, hb⟩; have GW := Aside0.mk gW; have HB2 := Aside0.mk (below_step (below_alloc (Below.refl w.heap.size w) _) hb); have Bt2 := Aside0.mk (blk_below (blk_new w _) hb); have ht2 := blk2 (w := w2) Bt2.out; clear gW hb) | (go_at_call 16; refine (leaves_ok _ t0 (some an) c1 ns T k ⟨Kd.C_below hns.out HB2.out⟩ hc1 KS hT hlen).mono ?_; rintro e w3 ⟨v, rfl, hr, hb⟩; obtain ⟨AL, cL, rfl, lL, gL⟩ := Kd.R_reads hr; have GL := Aside0.mk gL; have LL := Aside0.mk lL; have GW3 := Aside0.mk (Kd.C_below GW.out hb); have HB3 := Aside0.mk (below_step HB2.out hb); have Bt3 := Aside0.mk (blk_below Bt2.out hb); obtain ⟨aw, eaw, ew⟩ := Kd.at_int GW3.out (m : Int) (Int.natCast_nonneg _) (by omega); subst eaw; rw [Int.toNat_natCast, rd_way, ← HQ.out] at ew; have ht3 := blk2 (w := w3) Bt3.out; clear hr hb gL lL ht2 HB2 Bt2 GW))
  obtain ⟨ki, ri, hki⟩ := index_some (leavesL ns T) q (by unfold leavesL; rw [List.length_map]; exact Nat.le_trans (took_len ns false T hT.out) hlen.out) (leavesL ns T).length 0 (by omega)
  have KI : Aside0 (slices_Index_int_int.f ki (leavesL ns T) q = some ri) := ⟨hki⟩
  have en3 := (HB3.out.cell (World.block_lt_of_cell? w _ EN.out)).trans EN.out
  have r1 := eq_true q0
  have r2 := eq_true q1
  clear hki q0 q1
  go_quiet (((go_at_call 17; exact Calls.quiet_of (((slices_Index_int_int.calls ki AL cL (leavesL ns T) q ri _ (Kd.C_drewN GL.out _) LL.out KI.out).mono fun e w' h => ⟨h.1, h.2.out⟩)))))
  go_wp2
  refine bodyPost_ret (v := .tuple #[.int .i64 ri, .int .i64 (rd_T61 ns q).f1, .int .i64 0]) (by simp [results, Tryd.results7, go_sem]) rfl ⟨ri, rfl, pw_below_drewN HB3.out _⟩
end Go.Proofs.YtdflbplblanefaaDoor.FAll
