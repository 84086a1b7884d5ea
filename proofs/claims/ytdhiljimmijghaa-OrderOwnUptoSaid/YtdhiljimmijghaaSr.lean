/-
  slices.Sort at []uint64: a row of numbers in a block that the callee turns; cmp.Less.
-/
import Derived.Test.YtdhiljimmijghaaProg
import Derived.Test.YtdhiljimmijghaaWz
import Derived.Sort.AssemblyPlain
namespace Go.Proofs.Ytdhiljimmijghaa.FAll
open Go.RowKit Go.Sort Go.Proofs.YtdhiljimmijghaaW.PrintWords Go.Proofs.YtdhiljimmijghaaW.PrintLast Go.Proofs.YtdhiljimmijghaaW.PrintMore
set_option linter.unusedVariables false
set_option linter.unusedSimpArgs false
set_option linter.unusedSectionVars false
theorem grown_set (w : World) (g i : Nat) (v : Value) : w.grownBy (w.setCell ⟨g, i, none⟩ v) (some g) :=
  ⟨rfl, rfl, rfl, by rw [World.size_setCell]; exact Nat.le_refl _, fun k _ hk => Below.heap_setCell w ⟨g, i, none⟩ v k (fun e => hk (by rw [e]))⟩
/-- From w0 on nothing has turned but block g; it holds these numbers, and what lies behind them. -/
structure Srt (w0 : World) (g : Nat) (tl : List Value) (d : Array Int) (w : World) : Prop where
  row : w.heap[g]? = some (.cells ((d.toList.map (Value.int .u64)) ++ tl).toArray 23 (0, 0))
  grown : w0.grownBy w (some g)
section
variable {w0 w w' : World} {g : Nat} {tl : List Value} {d d' : Array Int}
theorem Srt.start (h : w.heap[g]? = some (.cells ((d.toList.map (Value.int .u64)) ++ tl).toArray 23 (0, 0))) : Srt w g tl d w := ⟨h, World.grownBy.refl w _⟩
theorem Srt.self (h : Srt w0 g tl d w) : Srt w g tl d w := .start h.row
theorem Srt.then_ (h : Srt w0 g tl d w) (h2 : Srt w g tl d' w') : Srt w0 g tl d' w' := ⟨h2.row, h.grown.trans h2.grown⟩
theorem Srt.below (h : Srt w0 g tl d w) (hb : Below w.heap.size w w') : Srt w0 g tl d w' := ⟨blk_below h.row hb, h.grown.trans (grown_of_below hb _)⟩
theorem Srt.drew (h : Srt w0 g tl d w) : Srt w0 g tl d w.drew := h.below (below_drew (Below.refl _ _))
theorem Srt.drewN (h : Srt w0 g tl d w) (n : Nat) : Srt w0 g tl d (w.drewN n) := h.below (pw_below_drewN (Below.refl _ _) n)
theorem Srt.other {k : Nat} {o : Obj} (h : Srt w0 g tl d w) (ho : w0.heap[k]? = some o) (hk : k ≠ g) : w.heap[k]? = some o :=
  (h.grown.block k (Array.getElem?_eq_some_iff.1 ho).1 (fun e => hk (by injection e))).trans ho
theorem Srt.lt (h : Srt w0 g tl d w) : g < w.heap.size := (Array.getElem?_eq_some_iff.1 h.row).1
theorem arr_get (d : Array Int) (i : Nat) (hi : i < d.size) : d[i]! = d[i] := by simp [hi]
theorem Srt.cell (h : Srt w0 g tl d w) (i : Nat) (hi : i < d.size) : w.cell? ⟨g, i, none⟩ = some (.int .u64 d[i]!) := by
  refine (blk_cell h.row i).trans ?_
  rw [List.getElem?_toArray, List.getElem?_append_left (by simp; exact hi), List.getElem?_map, Array.getElem?_toList, Array.getElem?_eq_getElem hi, arr_get d i hi]
  rfl
theorem Srt.frozen (h : Srt w0 g tl d w) (i : Nat) : w.frozen? ⟨g, i, none⟩ = false := blk_frozen h.row i
theorem Srt.at_ (h : Srt w0 g tl d w) (z : Int) (h0 : 0 ≤ z) (h1 : z < (d.size : Int)) : w.cell? ⟨g, z.toNat, none⟩ = some (.int .u64 d[z.toNat]!) := h.cell z.toNat (by omega)
theorem Srt.set (h : Srt w0 g tl d w) (i : Nat) (hi : i < d.size) (x : Int) : Srt w0 g tl (d.setIfInBounds i x) (w.setCell ⟨g, i, none⟩ (.int .u64 x)) := by
  refine ⟨?_, h.grown.trans (grown_set w g i _)⟩
  have h2 := blk_set h.row i (.int .u64 x)
  rw [h2]
  congr 2
  rw [List.setIfInBounds_toArray, List.set_append_left _ _ (by simp; exact hi), ← List.map_set, Array.toList_setIfInBounds]
theorem Srt.swp (h : Srt w0 g tl d w) (i j : Nat) (hi : i < d.size) (hj : j < d.size) : Srt w0 g tl (swp d i j) ((w.setCell ⟨g, i, none⟩ (.int .u64 d[j]!)).setCell ⟨g, j, none⟩ (.int .u64 d[i]!)) := by
  unfold Go.Sort.swp
  exact (h.set i hi _).set j (by rw [Array.size_setIfInBounds]; exact hj) _
theorem Srt.at2 (h : Srt w0 g tl d w) (i : Nat) (hi : i < d.size) (x : Int) (j : Nat) (hj : j < d.size) : ∃ v, (w.setCell ⟨g, i, none⟩ (.int .u64 x)).cell? ⟨g, j, none⟩ = some v :=
  ⟨_, (h.set i hi x).cell j (by rw [Array.size_setIfInBounds]; exact hj)⟩
end
theorem swp_size (d : Array Int) (i j : Nat) : (swp d i j).size = d.size := by unfold swp; rw [Array.size_setIfInBounds, Array.size_setIfInBounds]
theorem isNaN64.calls (x : Int) (w : World) : Calls Try.prog 36 #[.int .u64 x] w fun e w' => e = .returned (.bool false) ∧ Below w.heap.size w w' := by
  have HB := Aside0.mk (Below.refl w.heap.size w)
  go_enter Try.func36, Try.ntmps36
  go_wp2_with (fail)
  go_ret
  exact ⟨by simp, HB.out⟩
theorem Less64.calls (x y : Int) (w : World) : Calls Try.prog 45 #[.int .u64 x, .int .u64 y] w fun e w' => e = .returned (.bool (ltInt x y)) ∧ Below w.heap.size w w' := by
  have HB := Aside0.mk (Below.refl w.heap.size w)
  go_enter Try.func45, Try.ntmps45
  go_wp2_with (first | (go_at_call 36; refine (isNaN64.calls x _).mono ?_; rintro e w1 ⟨rfl, hb⟩; have n0_ := Aside0.mk (below_step HB.out hb); clear HB hb; have HB := n0_; clear n0_))
  go_ret
  exact ⟨rfl, HB.out⟩
theorem Less64.as (x y : Int) (w : World) (lb : Bool) (h : Aside0 (lb = ltInt x y)) : Calls Try.prog 45 #[.int .u64 x, .int .u64 y] w fun e w' => e = .returned (.bool lb) ∧ Below w.heap.size w w' := by
  rw [h.out]
  exact Less64.calls x y w
end Go.Proofs.Ytdhiljimmijghaa.FAll
