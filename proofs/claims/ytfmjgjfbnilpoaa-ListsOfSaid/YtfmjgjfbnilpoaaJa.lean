/-
 slices.SortStableFunc at a row of structs of 4 cells in a block that the callee turns; the comparison that is handed in reads a block of its own.
-/
import Derived.Test.YtfmjgjfbnilpoaaZq
import Derived.Test.YtfmjgjfbnilpoaaProg
import Derived.Test.YtfmjgjfbnilpoaaWz
import Derived.Test.YtfmjgjfbnilpoaaPy
import Derived.Deep.MidRow
import Derived.Test.YtfmjgjfbnilpoaaCf
namespace Go.Proofs.Ytfmjgjfbnilpoaa.FAll
open Go.RowKit Go.Sort YtfmjgjfbnilpoaaW.PrintWords YtfmjgjfbnilpoaaW.PrintLast YtfmjgjfbnilpoaaW.PrintMore
set_option linter.unusedVariables false
set_option linter.unusedSimpArgs false
set_option linter.unusedSectionVars false
/-- What an element lies as. -/
structure RcL (α : Type) where
 e0 : α → Value
 e1 : α → Value
 e2 : α → Value
 e3 : α → Value
 one : ∀ x, ∀ u ∈ [e0 x, e1 x, e2 x, e3 x], u.oneCell' = true
def RcL.cs {α : Type} (E : RcL α) (x : α) : List Value := [E.e0 x, E.e1 x, E.e2 x, E.e3 x]
/-- An element lies there. -/
abbrev AtL {α : Type} (E : RcL α) (w : World) (g o : Nat) (x : α) : Prop := w.cell? ⟨g, o, none⟩ = some (E.e0 x) ∧ w.cell? ⟨g, o + 1, none⟩ = some (E.e1 x) ∧ w.cell? ⟨g, o + 2, none⟩ = some (E.e2 x) ∧ w.cell? ⟨g, o + 3, none⟩ = some (E.e3 x)
theorem AtL.below {α : Type} {E : RcL α} {w w1 : World} {g o : Nat} {x : α} (hb : Below w.heap.size w w1) (h : AtL E w g o x) : AtL E w1 g o x :=
 ⟨(cB_ hb h.1), (cB_ hb h.2.1), (cB_ hb h.2.2.1), (cB_ hb h.2.2.2)⟩
theorem infoRcL : (Try.prog.info? 35).map (·.size) = some 4 := by kernel_rfl
/-- From w0 on nothing has turned but block g; it holds these structs, and what lies behind them; block kb holds what the comparison reads. -/
structure SrL {α : Type} (E : RcL α) (kb : Nat) (ko : Obj) (w0 : World) (g : Nat) (tl : List Value) (d : Array α) (w : World) : Prop where
 row : w.heap[g]? = some (.cells ((d.toList.flatMap E.cs) ++ tl).toArray 35 (0, 0))
 grown : w0.grownBy w (some g)
 held : w.heap[kb]? = some ko
 ne : kb ≠ g
section
variable {α : Type} [Inhabited α] {E : RcL α} {kb : Nat} {ko : Obj} {w0 w w' : World} {g : Nat} {tl : List Value} {d d' : Array α}
theorem RcL.len (E : RcL α) (x : α) : (E.cs x).length = 4 := rfl
theorem SrL.start (h : w.heap[g]? = some (.cells ((d.toList.flatMap E.cs) ++ tl).toArray 35 (0, 0))) (hk : w.heap[kb]? = some ko) (hn : kb ≠ g) : SrL E kb ko w g tl d w := ⟨h, World.grownBy.refl w _, hk, hn⟩
theorem SrL.self (h : SrL E kb ko w0 g tl d w) : SrL E kb ko w g tl d w := .start h.row h.held h.ne
theorem SrL.then_ (h : SrL E kb ko w0 g tl d w) (h2 : SrL E kb ko w g tl d' w') : SrL E kb ko w0 g tl d' w' := ⟨h2.row, h.grown.trans h2.grown, h2.held, h.ne⟩
theorem SrL.below (h : SrL E kb ko w0 g tl d w) (hb : Below w.heap.size w w') : SrL E kb ko w0 g tl d w' := ⟨blk_below h.row hb, h.grown.trans (grown_of_below hb _), (hb.block kb (Array.getElem?_eq_some_iff.1 h.held).1).trans h.held, h.ne⟩
theorem SrL.drew (h : SrL E kb ko w0 g tl d w) : SrL E kb ko w0 g tl d w.drew := h.below (below_drew (Below.refl _ _))
theorem SrL.drewN (h : SrL E kb ko w0 g tl d w) (n : Nat) : SrL E kb ko w0 g tl d (w.drewN n) := h.below (pw_below_drewN (Below.refl _ _) n)
theorem SrL.lt (h : SrL E kb ko w0 g tl d w) : g < w.heap.size := (Array.getElem?_eq_some_iff.1 h.row).1
theorem SrL.cell (h : SrL E kb ko w0 g tl d w) (i : Nat) (hi : i < d.size) (j : Nat) (hj : j < 4) : w.cell? ⟨g, i * 4 + j, none⟩ = (E.cs d[i]!)[j]? := by
 refine (blk_cell h.row _).trans ?_
 rw [List.getElem?_toArray, List.getElem?_append_left (by rw [flat_len E.len, Array.length_toList]; have : (i + 1) * 4 ≤ d.size * 4 := Nat.mul_le_mul_right _ hi; omega), flat_get E.len _ i j (by rw [Array.length_toList]; exact hi) hj, arr_get d i hi, Array.getElem_toList]
theorem SrL.at_ (h : SrL E kb ko w0 g tl d w) (i : Nat) (hi : i < d.size) : AtL E w g (i * 4) d[i]! := by
 have H := h.cell i hi
 obtain ⟨x, hx⟩ : ∃ x, x = d[i]! := ⟨_, rfl⟩
 rw [← hx] at H ⊢
 exact ⟨H 0 (by omega), H 1 (by omega), H 2 (by omega), H 3 (by omega)⟩
theorem SrL.there (h : SrL E kb ko w0 g tl d w) (i : Nat) (hi : i < d.size) : w.there g (i * 4) 4 := fun j hj =>
 ⟨by rw [h.cell i hi j hj, List.getElem?_eq_getElem (by rw [E.len]; exact hj)]; rfl, blk_frozen h.row _⟩
theorem SrL.set (h : SrL E kb ko w0 g tl d w) (i : Nat) (hi : i < d.size) (x : α) : SrL E kb ko w0 g tl (d.setIfInBounds i x) (w.setCells g (i * 4) (E.cs x)) := by
 obtain ⟨cs, hcs⟩ : ∃ cs, cs = E.cs x := ⟨_, rfl⟩
 have hcl : cs.length = 4 := by rw [hcs]; rfl
 rw [← hcs]
 have hsz : (d.toList.flatMap E.cs ++ tl).length = d.size * 4 + tl.length := by rw [List.length_append, flat_len E.len, Array.length_toList]
 have hm : (i + 1) * 4 ≤ d.size * 4 := Nat.mul_le_mul_right _ hi
 have hl : i * 4 + cs.length ≤ ((d.toList.flatMap E.cs) ++ tl).toArray.size := by
  rw [List.size_toArray, hsz, hcl]
  omega
 obtain ⟨cur', h1, h2, h3⟩ := setCells_row cs (i * 4) w _ h.row hl
 have h4 : cur' = ((d.setIfInBounds i x).toList.flatMap E.cs ++ tl).toArray := by
  rw [← Array.toList_inj, h3, hcl, hcs, Array.toList_setIfInBounds]
  exact flat_set E.len x tl _ i (by rw [Array.length_toList]; exact hi)
 rw [h4] at h1
 have h5 : (w.setCells g (i * 4) cs).heap[kb]? = w.heap[kb]? := setCells_far cs (i * 4) kb h.ne
 exact ⟨h1, h.grown.trans (grown_cells w g (i * 4) cs), h5.trans h.held, h.ne⟩
/-- A struct is stored into the row. -/
theorem SrL.store_ {ops : Array Oper} {Q : Exit → Act → World → Prop} {oi : Oper} {a : Act} {K : Act → World → Prop} {p v : Operand} (h : SrL E kb ko w0 g tl d w) (i : Nat) (hi : i < d.size) (x : α)
  (hw : Region.wanted oi (yielded ops a.tmps) = true) (hN : oi.dst = none) (hop : oi.op = .store 35 p v) (hp : a.eval p = .pointer (some ⟨g, i * 4, none⟩)) (hv : a.eval v = .agg #[E.e0 x, E.e1 x, E.e2 x, E.e3 x])
  (hK : ∀ w1, SrL E kb ko w0 g tl (d.setIfInBounds i x) w1 → K a w1) : if Region.wanted oi (yielded ops a.tmps) = true then Oper.wp Try.prog oi a w K Q else K (a.put none undef) w := by
 refine skip_ (w1 := w.setCells g (i * 4) (E.cs x)) hw hN ?_ (hK _ (h.set i hi x))
 have hs := run_storeAt_mid (P := Try.prog) w g (i * 4) 35 #[E.e0 x, E.e1 x, E.e2 x, E.e3 x] (h.there i hi) infoRcL (all_oneCell_toArray (E.one x))
 unfold execOp
 simp only [hop, hp, hv, Sem.run_bind, hs]
 rfl
end
/-- The comparison that is handed in: function F with lb bound to it says who is less, where block kb holds ko. -/
structure CmpL {α : Type} (E : RcL α) (kb : Nat) (ko : Obj) (lt : α → α → Bool) (F : FuncId) (lb : Array Value) : Prop where
 swo : SWO lt
 enters : ∀ (args : Array Value) (w : World), (callFunc F args).run Try.prog w = .ok (.enter F args) w
 calls : ∀ (x y : α) (w : World), w.heap[kb]? = some ko → Calls Try.prog F (#[.agg #[E.e0 x, E.e1 x, E.e2 x, E.e3 x], .agg #[E.e0 y, E.e1 y, E.e2 y, E.e3 y]] ++ lb) w fun e w' => (∃ c : Int, e = .returned (.int .i64 c) ∧ decide (c < 0) = lt x y) ∧ Below w.heap.size w w'
end Go.Proofs.Ytfmjgjfbnilpoaa.FAll
