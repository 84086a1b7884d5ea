/-
 slices.SortStableFunc at a row of structs of 5 cells in a block that the callee turns; the comparison that is handed in reads a block of its own.
-/
import Derived.Test.YtfmjgjfbnilpoaaZq
import Derived.Test.YtfmjgjfbnilpoaaProg
import Derived.Test.YtfmjgjfbnilpoaaWz
import Derived.Test.YtfmjgjfbnilpoaaPy
import Derived.Deep.MidRow
namespace Go.Proofs.Ytfmjgjfbnilpoaa.FAll
open Go.RowKit Go.Sort YtfmjgjfbnilpoaaW.PrintWords YtfmjgjfbnilpoaaW.PrintLast YtfmjgjfbnilpoaaW.PrintMore
set_option linter.unusedVariables false
set_option linter.unusedSimpArgs false
set_option linter.unusedSectionVars false
theorem flat_len {α β : Type} {f : α → List β} {k : Nat} (hf : ∀ x, (f x).length = k) : ∀ l : List α, (l.flatMap f).length = l.length * k
 | [] => by simp
 | a :: l => by rw [List.flatMap_cons, List.length_append, hf, flat_len hf l, List.length_cons, Nat.succ_mul, Nat.add_comm]
theorem flat_get {α β : Type} {f : α → List β} {k : Nat} (hf : ∀ x, (f x).length = k) : ∀ (l : List α) (i j : Nat) (hi : i < l.length), j < k → (l.flatMap f)[i * k + j]? = (f l[i])[j]?
 | [], i, _, hi, _ => absurd hi (Nat.not_lt_zero _)
 | a :: l, 0, j, _, hj => by
  rw [List.flatMap_cons, Nat.zero_mul, Nat.zero_add, List.getElem?_append_left (by rw [hf]; exact hj)]
  rfl
 | a :: l, i + 1, j, hi, hj => by
  rw [List.flatMap_cons, List.getElem?_append_right (by rw [hf, Nat.succ_mul]; omega), hf, show (i + 1) * k + j - k = i * k + j by rw [Nat.succ_mul]; omega]
  exact flat_get hf l i j (Nat.lt_of_succ_lt_succ hi) hj
theorem take_pre {β : Type} (A R : List β) (n m : Nat) (h : n = A.length + m) : (A ++ R).take n = A ++ R.take m := by subst h; exact List.take_length_add_append m
theorem drop_pre {β : Type} (A R : List β) (n m : Nat) (h : n = A.length + m) : (A ++ R).drop n = R.drop m := by subst h; exact List.drop_length_add_append m
theorem flat_set {α β : Type} {f : α → List β} {k : Nat} (hf : ∀ x, (f x).length = k) (x : α) (tl : List β) : ∀ (l : List α) (i : Nat), i < l.length → (l.flatMap f ++ tl).take (i * k) ++ f x ++ (l.flatMap f ++ tl).drop (i * k + k) = (l.set i x).flatMap f ++ tl
 | [], i, hi => absurd hi (Nat.not_lt_zero _)
 | a :: l, 0, _ => by
  rw [Nat.zero_mul, Nat.zero_add, List.take_zero, List.nil_append, List.flatMap_cons, List.append_assoc, List.drop_left' (hf a), List.set_cons_zero, List.flatMap_cons, List.append_assoc]
 | a :: l, i + 1, hi => by
  have ih := flat_set hf x tl l i (Nat.lt_of_succ_lt_succ hi)
  rw [List.flatMap_cons, List.append_assoc (f a), take_pre (f a) _ ((i + 1) * k) (i * k) (by rw [hf, Nat.succ_mul]; omega), drop_pre (f a) _ ((i + 1) * k + k) (i * k + k) (by rw [hf, Nat.succ_mul]; omega), List.set_cons_succ, List.flatMap_cons, List.append_assoc (f a), List.append_assoc (f a), List.append_assoc (f a), ← ih, List.append_assoc]
theorem grown_cells (w : World) (g o : Nat) (vs : List Value) : w.grownBy (w.setCells g o vs) (some g) := by
 obtain ⟨h1, h2, h3, h4⟩ := setCells_same g vs o w
 exact ⟨h1, h2, h3, by rw [h4]; exact Nat.le_refl _, fun k _ hk => setCells_far vs o k (fun e => hk (by rw [e]))⟩
theorem arr_get {α : Type} [Inhabited α] (d : Array α) (i : Nat) (hi : i < d.size) : d[i]! = d[i] := by simp [hi]
/-- A call of a function value with what it has bound. -/
theorem goesV_ {P : Program} {ops : Array Oper} {Q : Exit → Act → World → Prop} {oi : Oper} {N : Option Tmp} {a : Act} {w : World} {K : Act → World → Prop} {f : FuncId} {lb : Array Value} {o : Operand} {ax : Array Operand} {ts : Array TypeId} (en : ∀ (args : Array Value) (w : World), (callFunc f args).run P w = .ok (.enter f args) w) (args : Array Value)
  (hw : Region.wanted oi (yielded ops a.tmps) = true) (hN : oi.dst = N) (hop : oi.op = .call { callee := .value o, args := ax, argTypes := ts }) (ho : a.eval o = .func (.func f) #[] lb) (hargs : ax.map a.eval = args)
  (h : Calls P f (args ++ lb) w fun e w' => ∃ v, e = .returned v ∧ K (a.put N v) w') : if Region.wanted oi (yielded ops a.tmps) = true then Oper.wp P oi a w K Q else K (a.put N undef) w := by
 refine call_ f (args ++ lb) hw hN ?_ h
 have he := en (args ++ lb) w
 unfold execOp
 simp only [hop]
 simp [resolve, Deferred.ofValue, invoke, ho, hargs, he]
/-- What an element lies as. -/
structure RcC (α : Type) where
 e0 : α → Value
 e1 : α → Value
 e2 : α → Value
 e3 : α → Value
 e4 : α → Value
 one : ∀ x, ∀ u ∈ [e0 x, e1 x, e2 x, e3 x, e4 x], u.oneCell' = true
def RcC.cs {α : Type} (E : RcC α) (x : α) : List Value := [E.e0 x, E.e1 x, E.e2 x, E.e3 x, E.e4 x]
/-- An element lies there. -/
abbrev AtC {α : Type} (E : RcC α) (w : World) (g o : Nat) (x : α) : Prop := w.cell? ⟨g, o, none⟩ = some (E.e0 x) ∧ w.cell? ⟨g, o + 1, none⟩ = some (E.e1 x) ∧ w.cell? ⟨g, o + 2, none⟩ = some (E.e2 x) ∧ w.cell? ⟨g, o + 3, none⟩ = some (E.e3 x) ∧ w.cell? ⟨g, o + 4, none⟩ = some (E.e4 x)
theorem AtC.below {α : Type} {E : RcC α} {w w1 : World} {g o : Nat} {x : α} (hb : Below w.heap.size w w1) (h : AtC E w g o x) : AtC E w1 g o x :=
 ⟨(cB_ hb h.1), (cB_ hb h.2.1), (cB_ hb h.2.2.1), (cB_ hb h.2.2.2.1), (cB_ hb h.2.2.2.2)⟩
theorem infoRcC : (Try.prog.info? 56).map (·.size) = some 5 := by kernel_rfl
/-- From w0 on nothing has turned but block g; it holds these structs, and what lies behind them; block kb holds what the comparison reads. -/
structure SrC {α : Type} (E : RcC α) (kb : Nat) (ko : Obj) (w0 : World) (g : Nat) (tl : List Value) (d : Array α) (w : World) : Prop where
 row : w.heap[g]? = some (.cells ((d.toList.flatMap E.cs) ++ tl).toArray 56 (0, 0))
 grown : w0.grownBy w (some g)
 held : w.heap[kb]? = some ko
 ne : kb ≠ g
section
variable {α : Type} [Inhabited α] {E : RcC α} {kb : Nat} {ko : Obj} {w0 w w' : World} {g : Nat} {tl : List Value} {d d' : Array α}
theorem RcC.len (E : RcC α) (x : α) : (E.cs x).length = 5 := rfl
theorem SrC.start (h : w.heap[g]? = some (.cells ((d.toList.flatMap E.cs) ++ tl).toArray 56 (0, 0))) (hk : w.heap[kb]? = some ko) (hn : kb ≠ g) : SrC E kb ko w g tl d w := ⟨h, World.grownBy.refl w _, hk, hn⟩
theorem SrC.self (h : SrC E kb ko w0 g tl d w) : SrC E kb ko w g tl d w := .start h.row h.held h.ne
theorem SrC.then_ (h : SrC E kb ko w0 g tl d w) (h2 : SrC E kb ko w g tl d' w') : SrC E kb ko w0 g tl d' w' := ⟨h2.row, h.grown.trans h2.grown, h2.held, h.ne⟩
theorem SrC.below (h : SrC E kb ko w0 g tl d w) (hb : Below w.heap.size w w') : SrC E kb ko w0 g tl d w' := ⟨blk_below h.row hb, h.grown.trans (grown_of_below hb _), (hb.block kb (Array.getElem?_eq_some_iff.1 h.held).1).trans h.held, h.ne⟩
theorem SrC.drew (h : SrC E kb ko w0 g tl d w) : SrC E kb ko w0 g tl d w.drew := h.below (below_drew (Below.refl _ _))
theorem SrC.drewN (h : SrC E kb ko w0 g tl d w) (n : Nat) : SrC E kb ko w0 g tl d (w.drewN n) := h.below (pw_below_drewN (Below.refl _ _) n)
theorem SrC.lt (h : SrC E kb ko w0 g tl d w) : g < w.heap.size := (Array.getElem?_eq_some_iff.1 h.row).1
theorem SrC.cell (h : SrC E kb ko w0 g tl d w) (i : Nat) (hi : i < d.size) (j : Nat) (hj : j < 5) : w.cell? ⟨g, i * 5 + j, none⟩ = (E.cs d[i]!)[j]? := by
 refine (blk_cell h.row _).trans ?_
 rw [List.getElem?_toArray, List.getElem?_append_left (by rw [flat_len E.len, Array.length_toList]; have : (i + 1) * 5 ≤ d.size * 5 := Nat.mul_le_mul_right _ hi; omega), flat_get E.len _ i j (by rw [Array.length_toList]; exact hi) hj, arr_get d i hi, Array.getElem_toList]
theorem SrC.at_ (h : SrC E kb ko w0 g tl d w) (i : Nat) (hi : i < d.size) : AtC E w g (i * 5) d[i]! := by
 have H := h.cell i hi
 obtain ⟨x, hx⟩ : ∃ x, x = d[i]! := ⟨_, rfl⟩
 rw [← hx] at H ⊢
 exact ⟨H 0 (by omega), H 1 (by omega), H 2 (by omega), H 3 (by omega), H 4 (by omega)⟩
theorem SrC.there (h : SrC E kb ko w0 g tl d w) (i : Nat) (hi : i < d.size) : w.there g (i * 5) 5 := fun j hj =>
 ⟨by rw [h.cell i hi j hj, List.getElem?_eq_getElem (by rw [E.len]; exact hj)]; rfl, blk_frozen h.row _⟩
theorem SrC.set (h : SrC E kb ko w0 g tl d w) (i : Nat) (hi : i < d.size) (x : α) : SrC E kb ko w0 g tl (d.setIfInBounds i x) (w.setCells g (i * 5) (E.cs x)) := by
 obtain ⟨cs, hcs⟩ : ∃ cs, cs = E.cs x := ⟨_, rfl⟩
 have hcl : cs.length = 5 := by rw [hcs]; rfl
 rw [← hcs]
 have hsz : (d.toList.flatMap E.cs ++ tl).length = d.size * 5 + tl.length := by rw [List.length_append, flat_len E.len, Array.length_toList]
 have hm : (i + 1) * 5 ≤ d.size * 5 := Nat.mul_le_mul_right _ hi
 have hl : i * 5 + cs.length ≤ ((d.toList.flatMap E.cs) ++ tl).toArray.size := by
  rw [List.size_toArray, hsz, hcl]
  omega
 obtain ⟨cur', h1, h2, h3⟩ := setCells_row cs (i * 5) w _ h.row hl
 have h4 : cur' = ((d.setIfInBounds i x).toList.flatMap E.cs ++ tl).toArray := by
  rw [← Array.toList_inj, h3, hcl, hcs, Array.toList_setIfInBounds]
  exact flat_set E.len x tl _ i (by rw [Array.length_toList]; exact hi)
 rw [h4] at h1
 have h5 : (w.setCells g (i * 5) cs).heap[kb]? = w.heap[kb]? := setCells_far cs (i * 5) kb h.ne
 exact ⟨h1, h.grown.trans (grown_cells w g (i * 5) cs), h5.trans h.held, h.ne⟩
/-- A struct is stored into the row. -/
theorem SrC.store_ {ops : Array Oper} {Q : Exit → Act → World → Prop} {oi : Oper} {a : Act} {K : Act → World → Prop} {p v : Operand} (h : SrC E kb ko w0 g tl d w) (i : Nat) (hi : i < d.size) (x : α)
  (hw : Region.wanted oi (yielded ops a.tmps) = true) (hN : oi.dst = none) (hop : oi.op = .store 56 p v) (hp : a.eval p = .pointer (some ⟨g, i * 5, none⟩)) (hv : a.eval v = .agg #[E.e0 x, E.e1 x, E.e2 x, E.e3 x, E.e4 x])
  (hK : ∀ w1, SrC E kb ko w0 g tl (d.setIfInBounds i x) w1 → K a w1) : if Region.wanted oi (yielded ops a.tmps) = true then Oper.wp Try.prog oi a w K Q else K (a.put none undef) w := by
 refine skip_ (w1 := w.setCells g (i * 5) (E.cs x)) hw hN ?_ (hK _ (h.set i hi x))
 have hs := run_storeAt_mid (P := Try.prog) w g (i * 5) 56 #[E.e0 x, E.e1 x, E.e2 x, E.e3 x, E.e4 x] (h.there i hi) infoRcC (all_oneCell_toArray (E.one x))
 unfold execOp
 simp only [hop, hp, hv, Sem.run_bind, hs]
 rfl
end
/-- The comparison that is handed in: function F with lb bound to it says who is less, where block kb holds ko. -/
structure CmpC {α : Type} (E : RcC α) (kb : Nat) (ko : Obj) (lt : α → α → Bool) (F : FuncId) (lb : Array Value) : Prop where
 swo : SWO lt
 enters : ∀ (args : Array Value) (w : World), (callFunc F args).run Try.prog w = .ok (.enter F args) w
 calls : ∀ (x y : α) (w : World), w.heap[kb]? = some ko → Calls Try.prog F (#[.agg #[E.e0 x, E.e1 x, E.e2 x, E.e3 x, E.e4 x], .agg #[E.e0 y, E.e1 y, E.e2 y, E.e3 y, E.e4 y]] ++ lb) w fun e w' => (∃ c : Int, e = .returned (.int .i64 c) ∧ decide (c < 0) = lt x y) ∧ Below w.heap.size w w'
end Go.Proofs.Ytfmjgjfbnilpoaa.FAll
