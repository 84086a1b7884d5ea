/-
  slices.SortStableFunc at []float64: a row of numbers in a block that the callee turns; the comparison that is handed in.
-/
import Derived.Test.YtdhiljimmijghaaProg
import Derived.Test.YtdhiljimmijghaaWz
import Derived.Test.YtdhiljimmijghaaPy
namespace Go.Proofs.Ytdhiljimmijghaa.FAll
open Go.RowKit Go.Sort Go.Proofs.YtdhiljimmijghaaW.PrintWords Go.Proofs.YtdhiljimmijghaaW.PrintLast Go.Proofs.YtdhiljimmijghaaW.PrintMore
set_option linter.unusedVariables false
set_option linter.unusedSimpArgs false
set_option linter.unusedSectionVars false
theorem grown_setf (w : World) (g i : Nat) (v : Value) : w.grownBy (w.setCell ⟨g, i, none⟩ v) (some g) :=
  ⟨rfl, rfl, rfl, by rw [World.size_setCell]; exact Nat.le_refl _, fun k _ hk => Below.heap_setCell w ⟨g, i, none⟩ v k (fun e => hk (by rw [e]))⟩
/-- From w0 on nothing has turned but block g; it holds these numbers, and what lies behind them. -/
structure Srf (w0 : World) (g : Nat) (tl : List Value) (d : Array Nat) (w : World) : Prop where
  row : w.heap[g]? = some (.cells ((d.toList.map (Value.float .f64)) ++ tl).toArray 26 (0, 0))
  grown : w0.grownBy w (some g)
section
variable {w0 w w' : World} {g : Nat} {tl : List Value} {d d' : Array Nat}
theorem Srf.start (h : w.heap[g]? = some (.cells ((d.toList.map (Value.float .f64)) ++ tl).toArray 26 (0, 0))) : Srf w g tl d w := ⟨h, World.grownBy.refl w _⟩
theorem Srf.self (h : Srf w0 g tl d w) : Srf w g tl d w := .start h.row
theorem Srf.then_ (h : Srf w0 g tl d w) (h2 : Srf w g tl d' w') : Srf w0 g tl d' w' := ⟨h2.row, h.grown.trans h2.grown⟩
theorem Srf.below (h : Srf w0 g tl d w) (hb : Below w.heap.size w w') : Srf w0 g tl d w' := ⟨blk_below h.row hb, h.grown.trans (grown_of_below hb _)⟩
theorem Srf.drew (h : Srf w0 g tl d w) : Srf w0 g tl d w.drew := h.below (below_drew (Below.refl _ _))
theorem Srf.drewN (h : Srf w0 g tl d w) (n : Nat) : Srf w0 g tl d (w.drewN n) := h.below (pw_below_drewN (Below.refl _ _) n)
theorem Srf.other {k : Nat} {o : Obj} (h : Srf w0 g tl d w) (ho : w0.heap[k]? = some o) (hk : k ≠ g) : w.heap[k]? = some o :=
  (h.grown.block k (Array.getElem?_eq_some_iff.1 ho).1 (fun e => hk (by injection e))).trans ho
theorem Srf.lt (h : Srf w0 g tl d w) : g < w.heap.size := (Array.getElem?_eq_some_iff.1 h.row).1
theorem arr_getf (d : Array Nat) (i : Nat) (hi : i < d.size) : d[i]! = d[i] := by simp [hi]
theorem Srf.cell (h : Srf w0 g tl d w) (i : Nat) (hi : i < d.size) : w.cell? ⟨g, i, none⟩ = some (.float .f64 d[i]!) := by
  refine (blk_cell h.row i).trans ?_
  rw [List.getElem?_toArray, List.getElem?_append_left (by simp; exact hi), List.getElem?_map, Array.getElem?_toList, Array.getElem?_eq_getElem hi, arr_getf d i hi]
  rfl
theorem Srf.frozen (h : Srf w0 g tl d w) (i : Nat) : w.frozen? ⟨g, i, none⟩ = false := blk_frozen h.row i
theorem Srf.at_ (h : Srf w0 g tl d w) (z : Int) (h0 : 0 ≤ z) (h1 : z < (d.size : Int)) : w.cell? ⟨g, z.toNat, none⟩ = some (.float .f64 d[z.toNat]!) := h.cell z.toNat (by omega)
theorem Srf.set (h : Srf w0 g tl d w) (i : Nat) (hi : i < d.size) (x : Nat) : Srf w0 g tl (d.setIfInBounds i x) (w.setCell ⟨g, i, none⟩ (.float .f64 x)) := by
  refine ⟨?_, h.grown.trans (grown_setf w g i _)⟩
  have h2 := blk_set h.row i (.float .f64 x)
  rw [h2]
  congr 2
  rw [List.setIfInBounds_toArray, List.set_append_left _ _ (by simp; exact hi), ← List.map_set, Array.toList_setIfInBounds]
theorem Srf.swp (h : Srf w0 g tl d w) (i j : Nat) (hi : i < d.size) (hj : j < d.size) : Srf w0 g tl (swp d i j) ((w.setCell ⟨g, i, none⟩ (.float .f64 d[j]!)).setCell ⟨g, j, none⟩ (.float .f64 d[i]!)) := by
  unfold Go.Sort.swp
  exact (h.set i hi _).set j (by rw [Array.size_setIfInBounds]; exact hj) _
theorem Srf.at2 (h : Srf w0 g tl d w) (i : Nat) (hi : i < d.size) (x : Nat) (j : Nat) (hj : j < d.size) : ∃ v, (w.setCell ⟨g, i, none⟩ (.float .f64 x)).cell? ⟨g, j, none⟩ = some v :=
  ⟨_, (h.set i hi x).cell j (by rw [Array.size_setIfInBounds]; exact hj)⟩
end
/-- A call of a function value with what it has bound. -/
theorem goesV_ {P : Program} {ops : Array Oper} {Q : Exit → Act → World → Prop} {oi : Oper} {N : Option Tmp} {a : Act} {w : World} {K : Act → World → Prop} {f : FuncId} {lb : Array Value} {o : Operand} {ax : Array Operand} {ts : Array TypeId} (en : ∀ (args : Array Value) (w : World), (callFunc f args).run P w = .ok (.enter f args) w) (args : Array Value)
    (hw : Region.wanted oi (yielded ops a.tmps) = true) (hN : oi.dst = N) (hop : oi.op = .call { callee := .value o, args := ax, argTypes := ts }) (ho : a.eval o = .func (.func f) #[] lb) (hargs : ax.map a.eval = args)
    (h : Calls P f (args ++ lb) w fun e w' => ∃ v, e = .returned v ∧ K (a.put N v) w') : if Region.wanted oi (yielded ops a.tmps) = true then Oper.wp P oi a w K Q else K (a.put N undef) w := by
  refine call_ f (args ++ lb) hw hN ?_ h
  have he := en (args ++ lb) w
  unfold execOp
  simp only [hop]
  simp [resolve, Deferred.ofValue, invoke, ho, hargs, he]
/-- The comparison that is handed in: function F with lb bound to it says who is less. -/
structure CmpF (lt : Nat → Nat → Bool) (F : FuncId) (lb : Array Value) : Prop where
  swo : SWO lt
  enters : ∀ (args : Array Value) (w : World), (callFunc F args).run Try.prog w = .ok (.enter F args) w
  calls : ∀ (x y : Nat) (w : World), Calls Try.prog F (#[.float .f64 x, .float .f64 y] ++ lb) w fun e w' => (∃ c : Int, e = .returned (.int .i64 c) ∧ decide (c < 0) = lt x y) ∧ Below w.heap.size w w'
end Go.Proofs.Ytdhiljimmijghaa.FAll
