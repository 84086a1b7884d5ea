/-
 thicketref14.Of, what its walk leans on: stores of whole structs, a cut's categories copied in either order, cuts whose thresholds are numbers.
-/
import Derived.Test.YtfmjgjfbnilpoaaVb
namespace Go.Proofs.Ytfmjgjfbnilpoaa.FAll
open Go.RowKit Go.Sort Go.Maps Go.Shelf YtfmjgjfbnilpoaaW.PrintWords YtfmjgjfbnilpoaaW.PrintLast YtfmjgjfbnilpoaaW.PrintMore BTree
set_option linter.unusedVariables false
set_option linter.unusedSimpArgs false
theorem grown_set_row {w : World} {g : Nat} {zs cs : Array Value} {t : TypeId} (h : w.heap[g]? = some (.cells zs t (0, 0))) (hz : zs.size = cs.size) : (w.setCells g 0 cs.toList).heap[g]? = some (.cells cs t (0, 0)) := by
 obtain ⟨cur, h2, h3, h4⟩ := setCells_row cs.toList 0 w _ h (by rw [Array.length_toList]; omega)
 rw [h2, show cur = cs by rw [← Array.toList_inj, h4]; simp [hz]]
/-- A struct is stored into its own block, in a drawn region. -/
theorem boxStore_ {P : Program} {ops : Array Oper} {Q : Exit → Act → World → Prop} {oi : Oper} {a : Act} {W : World} {K : Act → World → Prop} (p v : Operand) (g : Nat) (t : TypeId) (zs cs : Array Value) (hrow : W.heap[g]? = some (.cells zs t (0, 0)))
  (hw : Region.wanted oi (yielded ops a.tmps) = true) (hN : oi.dst = none) (hop : oi.op = .store t p v) (hp : a.eval p = .pointer (some ⟨g, 0, none⟩)) (hv : a.eval v = .agg cs) (hz : zs.size = cs.size) (hi : (P.info? t).map (·.size) = some cs.size) (h1 : cs.all (·.oneCell') = true)
  (hK : ∀ w1, w1.heap[g]? = some (.cells cs t (0, 0)) → W.grownBy w1 (some g) → K a w1) : if Region.wanted oi (yielded ops a.tmps) = true then Oper.wp P oi a W K Q else K (a.put none undef) W := by
 refine skip_ (w1 := W.setCells g 0 cs.toList) hw hN ?_ (hK _ (grown_set_row hrow hz) (grown_cells W g 0 cs.toList))
 have hs := run_storeAt_mid (P := P) W g 0 t cs (fun j hj => ⟨by rw [show (⟨g, 0 + j, none⟩ : Addr) = ⟨g, j, none⟩ by rw [Nat.zero_add], blk_cell hrow, Array.getElem?_eq_getElem (by omega)]; rfl, blk_frozen hrow _⟩) hi h1
 unfold execOp
 simp only [hop, hp, hv, Sem.run_bind, hs]
 rfl
/-- .. in a plain one. -/
theorem boxStoreP_ {P : Program} {ops : Array Oper} {rest : List Oper} {Q : Exit → Act → World → Prop} {oi : Oper} {a : Act} {W : World} (p v : Operand) (g : Nat) (t : TypeId) (zs cs : Array Value) (hrow : W.heap[g]? = some (.cells zs t (0, 0)))
  (hgd : oi.guard = none) (hN : oi.dst = none) (hop : oi.op = .store t p v) (hp : a.eval p = .pointer (some ⟨g, 0, none⟩)) (hv : a.eval v = .agg cs) (hz : zs.size = cs.size) (hi : (P.info? t).map (·.size) = some cs.size) (h1 : cs.all (·.oneCell') = true)
  (hK : ∀ w1, w1.heap[g]? = some (.cells cs t (0, 0)) → W.grownBy w1 (some g) → wpList P ops Q rest a w1) : wpList P ops Q (oi :: rest) a W := by
 refine wpList_store_mid hgd t p v hop g 0 cs hp hv (fun j hj => ⟨by rw [show (⟨g, 0 + j, none⟩ : Addr) = ⟨g, j, none⟩ by rw [Nat.zero_add], blk_cell hrow, Array.getElem?_eq_getElem (by omega)]; rfl, blk_frozen hrow _⟩) hi h1 ?_
 rw [hN]
 exact hK _ (grown_set_row hrow hz) (grown_cells W g 0 cs.toList)
/-- A new block has turned: nothing older has. -/
theorem below_new {w0 W w1 : World} {g : Nat} (hb : Below w0.heap.size w0 W) (hg : W.grownBy w1 (some g)) (h : w0.heap.size ≤ g) : Below w0.heap.size w0 w1 := Below.grown hb hg (below_size hb) (fun q hq => by injection hq with hq; omega)
/-- What has come behind the copy of a cut's categories, in whatever order. -/
structure Got (W : World) (xs : List Int) (zs : Array Value) (t : TypeId) (v : Value) (g : Nat) (w : World) : Prop where
 row : Kd.R (Kd.int .i64) 3 w W.heap.size (fun k => k ≠ g) v xs
 box : w.heap[g]? = some (.cells zs t (0, 0))
 ge : W.heap.size ≤ g
 below : Below W.heap.size W w
theorem blk_second (w : World) (o1 o2 : Obj) : ((w.alloc o1).alloc o2).heap[w.heap.size + 1]? = some o2 := by
 have h := blk_new (w.alloc o1) o2
 rw [World.size_alloc] at h
 exact h
theorem R_empty {w : World} {base b : Nat} {ok : Nat → Prop} (hb : w.heap[b]? = some (.cells #[] 3 (0, 0))) (hl : base ≤ b) (hok : ok b) : Kd.R (Kd.int .i64) 3 w base ok (.slice (some ⟨b, 0, none⟩) 0 0) [] :=
 ⟨fun k hk => by have e : b = k := (by simpa [Value.ownBlock] using hk); exact e ▸ hok, [], ⟨rfl, .inr ⟨b, 0, #[], rfl, hl, hb, Nat.le_refl _, by unfold maxLen; omega, rfl, rfl⟩⟩, Reps.none _ _⟩
theorem got_last {W w3 : World} {xs : List Int} {v : Value} {ok : Nat → Prop} (hR : Kd.R (Kd.int .i64) 3 w3 W.heap.size ok v xs) (hb : Below W.heap.size W w3) (zs : Array Value) (t : TypeId) : Got W xs zs t v w3.heap.size (w3.alloc (.cells zs t (0, 0))) :=
 ⟨Kd.R_mono (Kd.R_alloc (Kd.R_bound hR) _) (fun k hk => Nat.ne_of_lt hk.2.2.1), blk_new _ _, hb.size, below_alloc hb _⟩
theorem got_ahead {W W2 w3 : World} {xs : List Int} {v v3 : Value} {g : Nat} (hR : Kd.R (Kd.int .i64) 3 w3 W.heap.size (fun k => k ≠ g) v3 xs) (hb : Below W.heap.size W w3) (zs : Array Value) (t : TypeId) (hg : W2.grownBy w3 v.ownBlock) (h2 : W2.heap[g]? = some (.cells zs t (0, 0))) (hv : v.ownBlock ≠ some g) (hl : W.heap.size ≤ g) : Got W xs zs t v3 g w3 :=
 ⟨hR, blk_grown h2 hg (fun e => hv e.symm), hl, hb⟩
/-- Thresholds of cuts that stand in rows by threshold are numbers. -/
def CutsOk (E : List (S71 × S56)) : Prop := ∀ e ∈ E, e.2.f0 < 2 ^ 64 ∧ (e.1.f0 ≠ 3 → isNaN e.2.f0 = false)
theorem CutsOk.snoc {E : List (S71 × S56)} {e : S71 × S56} (h : CutsOk E) (h1 : e.2.f0 < 2 ^ 64) (h2 : e.1.f0 ≠ 3 → isNaN e.2.f0 = false) : CutsOk (E ++ [e]) := fun a ha => by
 rcases List.mem_append.1 ha with ha | ha
 ·exact h a ha
 ·rw [List.mem_singleton.1 ha]; exact ⟨h1, h2⟩
theorem right_num {y : S71} {n : Int} (h : rightB y n = true) (hb : y.f3 < 2 ^ 64) (hk : y.f0 = 2) : isNaN y.f3 = false := by
 unfold rightB at h
 rw [if_neg (by omega), if_pos hk, Bool.and_eq_true, feq_self hb] at h
 simpa using h.1
/-- A feature's first row has such alone. -/
theorem CutsOk.row {E : List (S71 × S56)} {f : Int} {xs : List S56} (h : CutsOk E) (hs : StEq ltC (rowOf E f 0) xs) : ∀ x ∈ xs, x.f0 < 2 ^ 64 ∧ isNaN x.f0 = false := fun x hx => by
 have hx' := (hs.mem swoC x).1 hx
 unfold rowOf at hx'
 obtain ⟨e, he, rfl⟩ := List.mem_map.1 hx'
 obtain ⟨h1, h2⟩ := List.mem_filter.1 he
 refine ⟨(h e h1).1, (h e h1).2 ?_⟩
 unfold inRow at h2
 simp at h2
 exact h2.2
theorem StEq.len_ {α : Type} {lt : α → α → Bool} (hS : SWO lt) : ∀ (n : Nat) (a b : List α), a.length ≤ n → StEq lt a b → a.length = b.length
 | _, [], b, _, h => by
  cases b with
  | nil => rfl
  | cons y t =>
   have e := h y
   rw [List.filter_cons_of_pos (eqv_self hS y)] at e
   simp at e
 | 0, x :: a, _, hn, _ => by simp at hn
 | n + 1, x :: a, b, hn, h => by
  have hsplit : ∀ l : List α, l.length = (l.filter (eqv lt x)).length + (l.filter (fun z => !eqv lt x z)).length := fun l => by
   induction l with
   | nil => rfl
   | cons y t ih =>
    by_cases hy : eqv lt x y = true
    ·rw [List.filter_cons_of_pos hy, List.filter_cons_of_neg (by simp [hy]), List.length_cons, List.length_cons]; omega
    ·rw [List.filter_cons_of_neg hy, List.filter_cons_of_pos (by simp [hy]), List.length_cons, List.length_cons]; omega
  have hl : ((x :: a).filter (fun z => !eqv lt x z)).length ≤ n := by
   rw [List.filter_cons_of_neg (by simp [eqv_self hS x])]
   have := List.length_filter_le (fun z => !eqv lt x z) a
   simp at hn
   omega
  have h2 := StEq.len_ hS n _ (b.filter (fun z => !eqv lt x z)) hl (fun y => by
   rw [List.filter_filter, List.filter_filter]
   by_cases hy : eqv lt x y = true
   ·rw [eqv_congr hS hy] at *
    rw [List.filter_eq_nil_iff.2 (fun z _ => by simp), List.filter_eq_nil_iff.2 (fun z _ => by simp)]
   ·have e : ∀ z, (eqv lt y z && !eqv lt x z) = eqv lt y z := fun z => by
     by_cases hz : eqv lt y z = true
     ·rw [hz, Bool.true_and]
      by_cases hx : eqv lt x z = true
      ·exfalso
       apply hy
       rw [eqv_congr hS hx]
       unfold eqv at hz ⊢
       rw [Bool.and_comm]
       exact hz
      ·simp [hx]
     ·simp [hz]
    simp only [e]
    exact h y)
  rw [hsplit (x :: a), hsplit b, h2, h x]
theorem StEq.len {α : Type} {lt : α → α → Bool} (hS : SWO lt) {a b : List α} (h : StEq lt a b) : a.length = b.length := StEq.len_ hS _ a b (Nat.le_refl _) h
section
variable {w0 W W' : World} {G : List (Int × Nat)} {V : Nat → Nat → Value} {Y X : Nat → Nat → List S56} {own : Nat → Option (Nat × Nat)} {v : Value} {E : List (S71 × S56)}
/-- The row of lists has got a feature's. -/
theorem OutO.new (h : OutO w0 G V own v W) (hi : InO w0 G V X own W) (f : Int) {v4 : Value} {w4 : World} (R4 : Kd.R (Kd.raw 4) 35 w4 w0.heap.size (fun q => reown own W.heap.size (0, 3) q = some (0, 3)) v4 (G.map (outC V) ++ [[.int .i64 f, .slice none 0 0, .slice none 0 0, .slice none 0 0]]))
  (hat : v4.ownBlock = v.ownBlock ∨ ∃ b, v4.ownBlock = some b ∧ W.heap.size ≤ b) : OutO w0 (G ++ [(f, G.length + 1)]) (fun a b => if a = G.length + 1 then .slice none 0 0 else V a b) (reown own W.heap.size (0, 3)) v4 w4 := by
 refine ⟨fun b hb => ?_, by rw [outC_new hi]; exact R4⟩
 rcases hat with e | ⟨b2, e, h2⟩
 ·rw [e] at hb
  exact (retag_old (Kd.R_lt h.row b hb)).trans (h.tag b hb)
 ·rw [e] at hb
  injection hb with hb
  exact retag_new (by omega)
theorem SortX.new (h : SortX G Y X) (hi : InO w0 G V X own W) (f : Int) : SortX (G ++ [(f, G.length + 1)]) (fun a b => if a = G.length + 1 then [] else Y a b) (fun a b => if a = G.length + 1 then [] else X a b) := by
 intro p hp
 rcases List.mem_append.1 hp with hp | hp
 ·have hne : p.2 ≠ G.length + 1 := by
   obtain ⟨j, hj, _, e⟩ := hi.at_ hp
   omega
  simp only [hne, if_false]
  exact h p hp
 ·rw [List.mem_singleton.1 hp]
  simp only [if_true]
  exact ⟨⟨StEq.refl _, List.Pairwise.nil⟩, by trivial, by trivial⟩
theorem InO.ne_new (hi : InO w0 G V X own W) : ∀ p ∈ G, p.2 ≠ G.length + 1 := fun p hp => by
 obtain ⟨j, hj, _, e⟩ := hi.at_ hp
 omega
/-- What a cut's coming makes of a list's rows. -/
def StepX (X X1 : Nat → Nat → List S56) (g : Nat) (c : S56) (tk : Bool) : Prop := if tk then X1 = upd X g 1 (X g 1 ++ [c]) else ∃ ys, X1 = upd X g 0 ys ∧ StEq ltC (X g 0 ++ [c]) ys ∧ RisesS ltC ys
theorem SortX.put (h : SortX G Y X) (hb : ∀ p ∈ G, ∀ q ∈ G, p.2 = q.2 → p = q) {p : Int × Nat} (hp : p ∈ G) (c : S56) (tk tl : Bool) {X1 : Nat → Nat → List S56} (hs : StepX X X1 p.2 c tk) :
  SortX G (if tl then upd (upd Y p.2 (if tk then 1 else 0) (Y p.2 (if tk then 1 else 0) ++ [c])) p.2 2 ((upd Y p.2 (if tk then 1 else 0) (Y p.2 (if tk then 1 else 0) ++ [c])) p.2 2 ++ [c]) else upd Y p.2 (if tk then 1 else 0) (Y p.2 (if tk then 1 else 0) ++ [c])) (if tl then upd X1 p.2 2 (X1 p.2 2 ++ [c]) else X1) := by
 intro q hq
 by_cases e : q = p
 ·subst e
  obtain ⟨⟨h1, h2⟩, h3, h4⟩ := h q hq
  cases tk
  ·obtain ⟨ys, rfl, h5, h6⟩ := hs
   cases tl
   ·simp [upd, h3, h4]
    exact ⟨(StEq.snoc h1 c).trans h5, h6⟩
   ·simp [upd, h3, h4]
    exact ⟨(StEq.snoc h1 c).trans h5, h6⟩
  ·have hs' : X1 = upd X q.2 1 (X q.2 1 ++ [c]) := hs
   subst hs'
   cases tl
   ·simp [upd, h3, h4]
    exact ⟨h1, h2⟩
   ·simp [upd, h3, h4]
    exact ⟨h1, h2⟩
 ·have hne : q.2 ≠ p.2 := fun e2 => e (hb q hq p hp e2)
  have hX : X1 q.2 = X q.2 := by
   cases tk
   ·obtain ⟨ys, rfl, _⟩ := hs
    funext i
    simp [upd, hne]
   ·have hs' : X1 = upd X p.2 1 (X p.2 1 ++ [c]) := hs
    subst hs'
    funext i
    simp [upd, hne]
  obtain ⟨⟨h1, h2⟩, h3, h4⟩ := h q hq
  cases tk <;> cases tl <;> simp [upd, hne, hX] <;> exact ⟨⟨h1, h2⟩, h3, h4⟩
theorem SortX.len (h : SortX G Y X) (hr : RowsE E G Y) {p : Int × Nat} (hp : p ∈ G) : ∀ i, i < 3 → (X p.2 i).length ≤ E.length := by
 intro i hi
 obtain ⟨⟨h1, _⟩, h3, h4⟩ := h p hp
 have hl := rowOf_len E p.1 i
 rw [← hr.rows p hp i hi] at hl
 rcases i with _ | _ | _ | i
 ·rw [← StEq.len swoC h1]; exact hl
 ·rw [h3]; exact hl
 ·rw [h4]; exact hl
 ·omega
theorem StepX.len {X1 : Nat → Nat → List S56} {g : Nat} {c : S56} {tk : Bool} (hs : StepX X X1 g c tk) {n : Nat} (h : ∀ i, i < 3 → (X g i).length ≤ n) : ∀ i, i < 3 → (X1 g i).length ≤ n + 1 := by
 intro i hi
 cases tk
 ·obtain ⟨ys, rfl, h5, _⟩ := hs
  have := StEq.len swoC h5
  rw [List.length_append, List.length_singleton] at this
  have := h 0 (by decide)
  have := h i hi
  unfold upd
  split <;> omega
 ·have hs' : X1 = upd X g 1 (X g 1 ++ [c]) := hs
  subst hs'
  have := h 1 (by decide)
  have := h i hi
  unfold upd
  split
  ·rw [List.length_append, List.length_singleton]; omega
  ·omega
/-- The categories' row is kept where tags turn. -/
theorem RI_retag {gc : Nat} {u : Value} {xs : List Int} {base : Nat} (h : (Kd.int .i64).R 3 W base (fun q => own q = some (0, 5) ∧ q ≠ gc) u xs) (t : Nat × Nat) : (Kd.int .i64).R 3 W base (fun q => reown own W.heap.size t q = some (0, 5) ∧ q ≠ gc) u xs :=
 Kd.R_mono (Kd.R_bound h) (fun k hk => ⟨(retag_old hk.2.2.1).trans hk.1.1, hk.1.2⟩)
theorem OutO.hcc (h : OutO w0 G V own v W) (hnum : ∀ (j : Nat) (p : Int × Nat), G[j]? = some p → p.2 = j + 1) {p : Int × Nat} (hp : p ∈ G) {g cap : Nat} (e : v = .slice (some ⟨g, 0, none⟩) G.length cap) : ∀ j u, (outC V p)[j]? = some u → W.cell? ⟨g, (p.2 - 1) * 4 + j, none⟩ = some u := by
 obtain ⟨j, hj⟩ := List.mem_iff_getElem?.1 hp
 have ep := hnum j p hj
 have hlt : j < G.length := (List.getElem?_eq_some_iff.1 hj).1
 have hr := h.row
 rw [e] at hr
 obtain ⟨c, hcl, hM, hcc, _⟩ := Kd.R_elem hr [] (j : Int) (by omega) (by omega)
 have e3 : c = outC V p := by
  rw [hM.1, Int.toNat_natCast, List.getD_eq_getElem?_getD, List.getElem?_map, hj]
  rfl
 rw [e3, Int.toNat_natCast] at hcc
 rw [show p.2 - 1 = j by omega]
 exact hcc
theorem OutO.stored {V2 : Nat → Nat → Value} (h : OutO w0 G V own v W) (hnum : ∀ (j : Nat) (p : Int × Nat), G[j]? = some p → p.2 = j + 1) {p : Int × Nat} (hp : p ∈ G) (ho : ∀ a, a ≠ p.2 → V2 a = V a) {w9 : World} (R9 : Kd.R (Kd.raw 4) 35 w9 w0.heap.size (fun k => own k = some (0, 3)) v ((G.map (outC V)).set (p.2 - 1) (outC V2 p))) : OutO w0 G V2 own v w9 := by
 have es : (G.map (outC V)).set (p.2 - 1) (outC V2 p) = G.map (outC V2) := by
  obtain ⟨j, hj⟩ := List.mem_iff_getElem?.1 hp
  have ep := hnum j p hj
  have hlt : j < G.length := (List.getElem?_eq_some_iff.1 hj).1
  rw [show p.2 - 1 = j by omega]
  apply List.ext_getElem?
  intro k
  rw [List.getElem?_set]
  by_cases hk : j = k
  ·subst hk
   rw [if_pos rfl, if_pos (by rw [List.length_map]; exact hlt), List.getElem?_map, hj]
   rfl
  ·rw [if_neg hk, List.getElem?_map, List.getElem?_map]
   cases hG : G[k]? with
   | none => rfl
   | some q =>
    have hne : q.2 ≠ p.2 := by have := hnum k q hG; omega
    show some (outC V q) = some (outC V2 q)
    unfold outC
    rw [ho q.2 hne]
 exact ⟨h.tag, by rw [← es]; exact R9⟩
theorem raw_out {base : Nat} {okp : Nat → Prop} {V2 : Nat → Nat → Value} {p : Int × Nat} (h1 : ∀ u ∈ outC V2 p, u.oneCell' = true) : (Kd.raw 4).M W base okp (outC V2 p) ((outC V p).take 0 ++ [.int .i64 p.1, V2 p.2 0, V2 p.2 1, V2 p.2 2] ++ (outC V p).drop (0 + 4)) := ⟨rfl, rfl, h1⟩
theorem InD.same {D : DataW Unit} (h : InD D G) {f c : Int} {g : Nat} (hp : (f, g) ∈ G) (hat : D.atKey (.int .i64 f) (.lit (.int .i64 0)) = .lit (.int .i64 c)) : c = (g : Int) := by
 have h1 := h.at_ (f, g) hp (.lit (.int .i64 0))
 rw [hat] at h1
 injection h1 with h1
 injection h1
theorem R_setFar {α : Type} {d : Kd α} {e base : Nat} {ok : Nat → Prop} {u : Value} {xs : List α} {gx t : Nat} {cs : Array Value} (h : d.R e W base ok u xs) (hb : W.heap[gx]? = some (.cells cs t (0, 0))) (ht : ∀ q, q ∈ e :: d.E → q ≠ t) (i : Nat) (x : Value) : d.R e (W.setCell ⟨gx, i, none⟩ x) base ok u xs :=
 Kd.R_mono (Kd.R_far (p := ⟨gx, i, none⟩) (Kd.R_types h hb ht) (fun _ hk => hk.2) x) (fun _ hk => hk.1)
theorem box_upd {gx g t : Nat} {f : Value} (h : W.heap[gx]? = some (.cells #[f, V g 0, V g 1, V g 2] t (0, 0))) (i : Nat) (hi : i < 3) (x : Value) : (W.setCell ⟨gx, i + 1, none⟩ x).heap[gx]? = some (.cells #[f, upd V g i x g 0, upd V g i x g 1, upd V g i x g 2] t (0, 0)) := by
 rcases i with _ | _ | _ | i
 ·simp only [upd_same, upd_other V x (a := g) (b := 1) (g := g) (i := 0) (by omega), upd_other V x (a := g) (b := 2) (g := g) (i := 0) (by omega)]
  exact blk_put h 1 x rfl
 ·simp only [upd_same, upd_other V x (a := g) (b := 0) (g := g) (i := 1) (by omega), upd_other V x (a := g) (b := 2) (g := g) (i := 1) (by omega)]
  exact blk_put h 2 x rfl
 ·simp only [upd_same, upd_other V x (a := g) (b := 0) (g := g) (i := 2) (by omega), upd_other V x (a := g) (b := 1) (g := g) (i := 2) (by omega)]
  exact blk_put h 3 x rfl
 ·omega
theorem upd_row {β : Type} (U : Nat → Nat → β) (g i : Nat) (x : β) : ∀ a, a ≠ g → upd U g i x a = U a := fun a ha => by
 funext b
 exact upd_other U x (fun h => ha h.1)
/-- The row's block is tagged so. -/
theorem InO.tag_ne (h : InO w0 G V X own W) {p : Int × Nat} (hp : p ∈ G) {i : Nat} (hi : i < 3) {b : Nat} (e : (V p.2 i).ownBlock = some b) (j : Nat) : own b ≠ some (0, j) := fun e2 => by
 have h1 := h.vtag p hp i hi b e
 rw [e2] at h1
 injection h1 with h1
 injection h1 with h1 _
 have := h.pos hp
 omega
end
end Go.Proofs.Ytfmjgjfbnilpoaa.FAll
