/-
 lists.Of, what its loops keep: a box for each feature that has come, with three rows of cuts of its own, and a map of the boxes.
-/
import Derived.Test.YtfmjgjfbnilpoaaFa
import Derived.Test.YtfmjgjfbnilpoaaJg
import Derived.Maps.RangeWalk
import Derived.Maps.Views
import Derived.Maps.OwnOps
namespace Go.Proofs.Ytfmjgjfbnilpoaa.FAll
open Go.RowKit Go.Sort Go.Maps YtfmjgjfbnilpoaaW.PrintWords YtfmjgjfbnilpoaaW.PrintLast YtfmjgjfbnilpoaaW.PrintMore
set_option linter.unusedVariables false
set_option linter.unusedSimpArgs false
set_option linter.unusedSectionVars false
/-- How an element of the map reads: a box's number. -/
def ptrR : Value → Option (DataW Unit × List MemPlace)
 | .pointer none => some (.lit (.bool false), [])
 | .pointer (some ⟨g, 0, none⟩) => some (.lit (.int .i64 (g : Int)), [])
 | _ => none
theorem ptrR_inv {v : Value} {y : DataW Unit × List MemPlace} (h : ptrR v = some y) : (v = .pointer none ∧ y = (.lit (.bool false), [])) ∨ ∃ g : Nat, v = .pointer (some ⟨g, 0, none⟩) ∧ y = (.lit (.int .i64 (g : Int)), []) := by
 unfold ptrR at h
 split at h
 ·exact .inl ⟨rfl, (Option.some.inj h).symm⟩
 ·exact .inr ⟨_, rfl, (Option.some.inj h).symm⟩
 ·cases h
theorem lawI : Keyed Try.prog 3 := int_keyed Try.underlying3
theorem zeroP (w : World) : (zeroValue 72).run Try.prog w = .ok (.pointer none) w := by kernel_rfl
/-- 'all[k]': no box, or the key's. -/
theorem wpList_lookup_box (w : World) {ops : Array Oper} {rest : List Oper} {o : Oper} {a : Act} {Q : Exit → Act → World → Prop}
  (hg : o.guard = none) (m x : Operand) (hop : o.op = Op.lookup 66 m x false) (b n : Nat) (D : DataW Unit)
  (hm : a.eval m = .map (some b)) (hown : w.ownsMap Try.prog 3 ptrR b n D) (f : Int) (hx : a.eval x = .int .i64 f) (hkey : keyOf Try.prog 3 (.int .i64 f) = some (.int .i64 f))
  (hK : ∀ v : Value, (v = .pointer none ∧ D.atKey (.int .i64 f) (.lit (.bool false)) = .lit (.bool false)) ∨ (∃ g : Nat, v = .pointer (some ⟨g, 0, none⟩) ∧ D.atKey (.int .i64 f) (.lit (.bool false)) = .lit (.int .i64 (g : Int))) → wpList Try.prog ops Q rest (a.put o.dst v) w) :
  wpList Try.prog ops Q (o :: rest) a w := by
 refine wpList_plain hg fun K' hK' => ?_
 obtain ⟨v, ps, hrun, hv⟩ := hown.lookup lawI Try.underlying66 (zeroP w) (zd := .lit (.bool false)) (zp := []) rfl hkey
 unfold Oper.wp
 simp [execOp, hop, hm, hx, hrun, Result.andThen]
 refine hK' _ _ (hK v ?_)
 rcases ptrR_inv hv with ⟨rfl, h⟩ | ⟨g, rfl, h⟩
 ·exact .inl ⟨rfl, (Prod.mk.inj h).1⟩
 ·exact .inr ⟨g, rfl, (Prod.mk.inj h).1⟩
/-- The map's entries: each box's number under its feature, no other. -/
structure InD (D : DataW Unit) (G : List (Int × Nat)) : Prop where
 ism : IsMap D
 at_ : ∀ p ∈ G, ∀ zd, D.atKey (.int .i64 p.1) zd = .lit (.int .i64 (p.2 : Int))
 out : ∀ f, (∀ p ∈ G, p.1 ≠ f) → has D (.int .i64 f) = false
theorem InD.start : InD (.map []) [] := ⟨isMap_empty, fun p hp => absurd hp List.not_mem_nil, fun f _ => rfl⟩
theorem InD.put {D : DataW Unit} {G : List (Int × Nat)} (h : InD D G) (f : Int) (g : Nat) (hf : ∀ p ∈ G, p.1 ≠ f) : InD (D.put (.int .i64 f) (.lit (.int .i64 (g : Int)))) (G ++ [(f, g)]) := by
 refine ⟨h.ism.put _ _, fun p hp zd => ?_, fun f' hf' => ?_⟩
 ·rcases List.mem_append.1 hp with hp | hp
  ·rw [atKey_put_other (fun e => hf p hp (by injection e))]
   exact h.at_ p hp zd
  ·rw [List.mem_singleton.1 hp]
   exact atKey_put_same h.ism (show WideAt.IsKeyLit (.int .i64 f) from trivial) _ _
 ·have h1 : f' ≠ f := fun e => hf' (f, g) (by simp) e.symm
  rw [has_put_other (fun e => h1 (by injection e))]
  exact h.out f' fun p hp => hf' p (List.mem_append_left _ hp)
/-- What a look-up has told. -/
theorem InD.found {D : DataW Unit} {G : List (Int × Nat)} (h : InD D G) {f : Int} {g : Nat} (hat : D.atKey (.int .i64 f) (.lit (.bool false)) = .lit (.int .i64 (g : Int))) : (f, g) ∈ G := by
 by_cases hex : ∃ p ∈ G, p.1 = f
 ·obtain ⟨p, hp, rfl⟩ := hex
  have := h.at_ p hp (.lit (.bool false))
  rw [hat] at this
  have e : (g : Int) = (p.2 : Int) := by injection this with this; injection this
  have e2 : g = p.2 := by omega
  rw [e2]
  exact hp
 ·have := h.out f fun p hp e => hex ⟨p, hp, e⟩
  rw [atKey_of_not_has this] at hat
  injection hat with hat
  cases hat
theorem InD.missed {D : DataW Unit} {G : List (Int × Nat)} (h : InD D G) {f : Int} (hat : D.atKey (.int .i64 f) (.lit (.bool false)) = .lit (.bool false)) : ∀ p ∈ G, p.1 ≠ f := by
 rintro p hp rfl
 have := h.at_ p hp (.lit (.bool false))
 rw [hat] at this
 injection this with this
 cases this
def upd {β : Type} (V : Nat → Nat → β) (g i : Nat) (x : β) : Nat → Nat → β := fun a b => if a = g ∧ b = i then x else V a b
theorem upd_same {β : Type} (V : Nat → Nat → β) (g i : Nat) (x : β) : upd V g i x g i = x := by unfold upd; rw [if_pos ⟨rfl, rfl⟩]
theorem upd_other {β : Type} (V : Nat → Nat → β) {g i a b : Nat} (x : β) (h : ¬ (a = g ∧ b = i)) : upd V g i x a b = V a b := by unfold upd; rw [if_neg h]
def boxC (V : Nat → Nat → Value) (p : Int × Nat) : Array Value := #[.int .i64 p.1, V p.2 0, V p.2 1, V p.2 2]
/-- The boxes and their rows. -/
structure InB (w0 : World) (G : List (Int × Nat)) (V : Nat → Nat → Value) (X : Nat → Nat → List S56) (own : Nat → Option (Nat × Nat)) (W : World) : Prop where
 keys : (G.map Prod.fst).Nodup
 boxes : ∀ p ∈ G, ∀ q ∈ G, p.2 = q.2 → p = q
 base : ∀ p ∈ G, w0.heap.size ≤ p.2
 tag : ∀ p ∈ G, own p.2 = some (p.2, 4)
 box : ∀ p ∈ G, W.heap[p.2]? = some (.cells (boxC V p) 35 (0, 0))
 row : ∀ p ∈ G, ∀ i, i < 3 → Kd.R k56 56 W w0.heap.size (fun k => own k = some (p.2, i)) (V p.2 i) (X p.2 i)
 below : Below w0.heap.size w0 W
section
variable {w0 W W' : World} {G : List (Int × Nat)} {V : Nat → Nat → Value} {X : Nat → Nat → List S56} {own : Nat → Option (Nat × Nat)}
theorem InB.start (w0 W : World) (V : Nat → Nat → Value) (X : Nat → Nat → List S56) (own : Nat → Option (Nat × Nat)) (hb : Below w0.heap.size w0 W) : InB w0 [] V X own W :=
 ⟨List.nodup_nil, fun p hp => absurd hp List.not_mem_nil, fun p hp => absurd hp List.not_mem_nil, fun p hp => absurd hp List.not_mem_nil, fun p hp => absurd hp List.not_mem_nil, fun p hp => absurd hp List.not_mem_nil, hb⟩
theorem InB.step (h : InB w0 G V X own W) (hb : Below W.heap.size W W') : InB w0 G V X own W' :=
 ⟨h.keys, h.boxes, h.base, h.tag, fun p hp => blk_below (h.box p hp) hb, fun p hp i hi => Kd.R_below (h.row p hp i hi) hb, below_step h.below hb⟩
/-- A map's block, or any that is none of these, has turned. -/
theorem InB.beside (h : InB w0 G V X own W) {b : Nat} (hg : W.grownBy W' (some b)) (hb : Below w0.heap.size w0 W') (hne : ∀ (cs : Array Value) (t : TypeId), W.heap[b]? ≠ some (.cells cs t (0, 0))) : InB w0 G V X own W' :=
 ⟨h.keys, h.boxes, h.base, h.tag, fun p hp => blk_grown (h.box p hp) hg (fun e => hne _ _ ((Option.some.inj e) ▸ h.box p hp)), fun p hp i hi => Kd.R_mono (Kd.R_grown (Kd.R_bound (h.row p hp i hi)) hg (fun k hk e => by
  obtain ⟨_, _, _, q, _, cells, hc⟩ := hk
  rw [Option.some.inj e] at hc
  exact hne _ _ hc)) (fun k hk => hk.1), hb⟩
/-- From here on new blocks are a row's. -/
def reown (own : Nat → Option (Nat × Nat)) (n : Nat) (t : Nat × Nat) : Nat → Option (Nat × Nat) := fun k => if n ≤ k then some t else own k
theorem retag_old {own : Nat → Option (Nat × Nat)} {n k : Nat} {t : Nat × Nat} (h : k < n) : reown own n t k = own k := by unfold reown; rw [if_neg (by omega)]
theorem retag_new {own : Nat → Option (Nat × Nat)} {n k : Nat} {t : Nat × Nat} (h : n ≤ k) : reown own n t k = some t := by unfold reown; rw [if_pos h]
theorem InB.retag (h : InB w0 G V X own W) (t : Nat × Nat) : InB w0 G V X (reown own W.heap.size t) W :=
 ⟨h.keys, h.boxes, h.base, fun p hp => (retag_old (blk_lt (h.box p hp))).trans (h.tag p hp), h.box, fun p hp i hi => Kd.R_mono (Kd.R_bound (h.row p hp i hi)) (fun k hk => (retag_old hk.2.2.1).trans hk.1), h.below⟩
/-- A row has turned, and it alone. -/
theorem InB.turn (h : InB w0 G V X own W) {p : Int × Nat} (hp : p ∈ G) {i : Nat} (hi : i < 3) {ys : List S56} (hR : Kd.R k56 56 W' w0.heap.size (fun k => own k = some (p.2, i)) (V p.2 i) ys) (hg : W.grownBy W' (V p.2 i).ownBlock) (hb : Below w0.heap.size w0 W') : InB w0 G V (upd X p.2 i ys) own W' := by
 refine ⟨h.keys, h.boxes, h.base, h.tag, fun q hq => blk_grown (h.box q hq) hg (Kd.R_ne (h.row p hp i hi) (h.box q hq) (by decide)), fun q hq j hj => ?_, hb⟩
 by_cases e : q.2 = p.2 ∧ j = i
 ·obtain ⟨e1, rfl⟩ := e
  rw [e1, upd_same]
  exact hR
 ·rw [upd_other X ys e]
  exact Kd.R_grown (h.row q hq j hj) hg (fun k hk e2 => e (by
   have this : own k = some (p.2, i) := (h.row p hp i hi).1 k e2.symm
   rw [hk] at this
   injection this with this
   injection this with a b
   exact ⟨a, b⟩))
theorem boxC_put (V : Nat → Nat → Value) (p : Int × Nat) (i : Nat) (hi : i < 3) (v : Value) : (boxC V p).setIfInBounds (i + 1) v = boxC (upd V p.2 i v) p := by
 unfold boxC
 rcases i with _ | _ | _ | i
 ·rw [upd_same, upd_other V v (by omega), upd_other V v (by omega)]; rfl
 ·rw [upd_same, upd_other V v (by omega), upd_other V v (by omega)]; rfl
 ·rw [upd_same, upd_other V v (by omega), upd_other V v (by omega)]; rfl
 ·omega
theorem boxC_other (V : Nat → Nat → Value) {p q : Int × Nat} (i : Nat) (v : Value) (h : q.2 ≠ p.2) : boxC (upd V p.2 i v) q = boxC V q := by
 unfold boxC
 rw [upd_other V v (fun e => h e.1), upd_other V v (fun e => h e.1), upd_other V v (fun e => h e.1)]
/-- A cut has been put at a row's end, and the row laid into its box. -/
theorem InB.push (h : InB w0 G V X own W) {p : Int × Nat} (hp : p ∈ G) {i : Nat} (hi : i < 3) {v : Value} {xs : List S56} (hR : Kd.R k56 56 W' w0.heap.size (fun k => own k = some (p.2, i)) v xs) (hg : W.grownBy W' (V p.2 i).ownBlock) (hb : Below w0.heap.size w0 W') :
  InB w0 G (upd V p.2 i v) (upd X p.2 i xs) own (W'.setCell ⟨p.2, i + 1, none⟩ v) := by
 have hbox : ∀ q ∈ G, W'.heap[q.2]? = some (.cells (boxC V q) 35 (0, 0)) := fun q hq => blk_grown (h.box q hq) hg (Kd.R_ne (h.row p hp i hi) (h.box q hq) (by decide))
 refine ⟨h.keys, h.boxes, h.base, h.tag, fun q hq => ?_, fun q hq j hj => ?_, below_set hb (h.base p hp)⟩
 ·by_cases e : q.2 = p.2
  ·rw [h.boxes q hq p hp e]
   exact blk_put (hbox p hp) (i + 1) v (boxC_put V p i hi v)
  ·rw [boxC_other V i v e]
   exact blk_far (hbox q hq) e v
 ·have far : ∀ {u : Value} {ys : List S56} {ok : Nat → Prop}, Kd.R k56 56 W' w0.heap.size ok u ys → Kd.R k56 56 (W'.setCell ⟨p.2, i + 1, none⟩ v) w0.heap.size ok u ys := fun hr => Kd.R_mono (Kd.R_far (p := ⟨p.2, i + 1, none⟩) (Kd.R_types hr (hbox p hp) (by decide)) (fun _ hk => hk.2) v) (fun _ hk => hk.1)
  by_cases e : q.2 = p.2 ∧ j = i
  ·obtain ⟨e1, rfl⟩ := e
   rw [e1, upd_same, upd_same]
   exact far hR
  ·rw [upd_other X xs e, upd_other V v e]
   exact far (Kd.R_grown (h.row q hq j hj) hg (fun k hk e2 => e (by
    have this : own k = some (p.2, i) := (h.row p hp i hi).1 k e2.symm
    rw [hk] at this
    injection this with this
    injection this with a b
    exact ⟨a, b⟩)))
/-- A new box. -/
theorem InB.new (h : InB w0 G V X own W) (f : Int) (hf : ∀ p ∈ G, p.1 ≠ f) : InB w0 (G ++ [(f, W.heap.size)]) (fun a b => if a = W.heap.size then .slice none 0 0 else V a b) (fun a b => if a = W.heap.size then [] else X a b) (reown own W.heap.size (W.heap.size, 4)) (W.alloc (.cells #[.int .i64 f, .slice none 0 0, .slice none 0 0, .slice none 0 0] 35)) := by
 have hlt : ∀ p ∈ G, p.2 ≠ W.heap.size := fun p hp => Nat.ne_of_lt (blk_lt (h.box p hp))
 refine ⟨?_, ?_, ?_, ?_, ?_, ?_, below_alloc h.below _⟩
 ·rw [List.map_append, List.nodup_append]
  refine ⟨h.keys, by simp, fun a ha b hb e => ?_⟩
  obtain ⟨p, hp, rfl⟩ := List.mem_map.1 ha
  simp only [List.map_cons, List.map_nil, List.mem_singleton] at hb
  exact hf p hp (e.trans hb)
 ·intro p hp q hq e
  rcases List.mem_append.1 hp with hp | hp <;> rcases List.mem_append.1 hq with hq | hq
  ·exact h.boxes p hp q hq e
  ·rw [List.mem_singleton.1 hq] at e; exact absurd e (hlt p hp)
  ·rw [List.mem_singleton.1 hp] at e; exact absurd e.symm (hlt q hq)
  ·rw [List.mem_singleton.1 hp, List.mem_singleton.1 hq]
 ·intro p hp
  rcases List.mem_append.1 hp with hp | hp
  ·exact h.base p hp
  ·rw [List.mem_singleton.1 hp]; exact below_size h.below
 ·intro p hp
  rcases List.mem_append.1 hp with hp | hp
  ·exact (retag_old (blk_lt (h.box p hp))).trans (h.tag p hp)
  ·rw [List.mem_singleton.1 hp]; exact retag_new (Nat.le_refl _)
 ·intro p hp
  rcases List.mem_append.1 hp with hp | hp
  ·have := h.box p hp
   unfold boxC at this ⊢
   simp only [hlt p hp, if_false]
   exact blk_alloc this _
  ·rw [List.mem_singleton.1 hp]
   unfold boxC
   simp only [if_true]
   exact blk_new W _
 ·intro p hp i hi
  rcases List.mem_append.1 hp with hp | hp
  ·simp only [hlt p hp, if_false]
   exact Kd.R_alloc (Kd.R_mono (Kd.R_bound (h.row p hp i hi)) (fun k hk => (retag_old hk.2.2.1).trans hk.1)) _
  ·rw [List.mem_singleton.1 hp]
   simp only [if_true]
   exact Kd.R_nil _ _ _ _ _
end
end Go.Proofs.Ytfmjgjfbnilpoaa.FAll
/-
 lists.Of, plain: the cuts of trees one by one, and what of them a feature's rows hold.
-/
namespace Go.Proofs.Ytfmjgjfbnilpoaa.FAll
open Go.RowKit Go.Sort Go.Maps YtfmjgjfbnilpoaaW.PrintWords YtfmjgjfbnilpoaaW.PrintLast YtfmjgjfbnilpoaaW.PrintMore BTree
set_option linter.unusedVariables false
set_option linter.unusedSimpArgs false
/-- A mark's node, and its cut. -/
def evM (k : Nat) (ns : List S71) (m : S58) : S71 × S56 := (rd_T71 ns m.f0, ⟨(rd_T71 ns m.f0).f3, (rd_T71 ns m.f0).f4, (k : Int), m.f1, m.f2⟩)
noncomputable def evT (k : Nat) (y : S53) : List (S71 × S56) := (BT.marks (treeV y.f1) 0).map (evM k y.f1)
/-- Those of the first trees. -/
noncomputable def evTo (ts : List S53) (n : Nat) : List (S71 × S56) := (List.range n).flatMap fun k => evT k (rd_T53 ts (k : Int))
theorem evTo_succ (ts : List S53) (n : Nat) : evTo ts (n + 1) = evTo ts n ++ evT n (rd_T53 ts (n : Int)) := by
 unfold evTo
 rw [List.range_succ, List.flatMap_append]
 simp
/-- Does it stand in a feature's row? -/
def inRow (f : Int) (i : Nat) (e : S71 × S56) : Bool := e.1.f2 == f && (if i = 0 then e.1.f0 != 3 else if i = 1 then e.1.f0 == 3 else e.1.f5 == 2)
def rowOf (E : List (S71 × S56)) (f : Int) (i : Nat) : List S56 := (E.filter (inRow f i)).map Prod.snd
theorem rowOf_len (E : List (S71 × S56)) (f : Int) (i : Nat) : (rowOf E f i).length ≤ E.length := by
 unfold rowOf
 rw [List.length_map]
 exact List.length_filter_le _ _
theorem rowOf_snoc (E : List (S71 × S56)) (e : S71 × S56) (f : Int) (i : Nat) : rowOf (E ++ [e]) f i = if inRow f i e = true then rowOf E f i ++ [e.2] else rowOf E f i := by
 unfold rowOf
 rw [List.filter_append, List.map_append]
 by_cases h : inRow f i e = true
 ·rw [if_pos h, List.filter_cons_of_pos h]; rfl
 ·rw [if_neg h, List.filter_cons_of_neg h, List.filter_nil, List.map_nil, List.append_nil]
theorem inRow_other {f : Int} {e : S71 × S56} (i : Nat) (h : e.1.f2 ≠ f) : inRow f i e = false := by
 unfold inRow
 rw [beq_eq_false_iff_ne.mpr h, Bool.false_and]
/-- The rows hold what of the cuts is theirs; there is a box for each feature that has come. -/
structure RowsE (E : List (S71 × S56)) (G : List (Int × Nat)) (X : Nat → Nat → List S56) : Prop where
 rows : ∀ p ∈ G, ∀ i, i < 3 → X p.2 i = rowOf E p.1 i
 come : ∀ e ∈ E, ∃ p ∈ G, p.1 = e.1.f2
theorem RowsE.start (X : Nat → Nat → List S56) : RowsE [] [] X := ⟨fun p hp => absurd hp List.not_mem_nil, fun e he => absurd he List.not_mem_nil⟩
theorem RowsE.new {E : List (S71 × S56)} {G : List (Int × Nat)} {X : Nat → Nat → List S56} (h : RowsE E G X) (f : Int) (g : Nat) (hf : ∀ p ∈ G, p.1 ≠ f) (hg : ∀ p ∈ G, p.2 ≠ g) : RowsE E (G ++ [(f, g)]) (fun a b => if a = g then [] else X a b) := by
 refine ⟨fun p hp i hi => ?_, fun e he => ?_⟩
 ·rcases List.mem_append.1 hp with hp | hp
  ·rw [if_neg (hg p hp)]; exact h.rows p hp i hi
  ·rw [List.mem_singleton.1 hp, if_pos rfl]
   unfold rowOf
   rw [List.filter_eq_nil_iff.2 fun e he => by
    obtain ⟨p, hp, hp2⟩ := h.come e he
    rw [inRow_other i (by rw [← hp2]; exact hf p hp)]
    decide]
   rfl
 ·obtain ⟨p, hp, h1⟩ := h.come e he
  exact ⟨p, List.mem_append_left _ hp, h1⟩
theorem nodup_inj {α β : Type} {f : α → β} : ∀ {l : List α}, (l.map f).Nodup → ∀ p ∈ l, ∀ q ∈ l, f p = f q → p = q
 | [], _, p, hp, _, _, _ => absurd hp List.not_mem_nil
 | a :: l, h, p, hp, q, hq, e => by
  rw [List.map_cons, List.nodup_cons] at h
  rcases List.mem_cons.1 hp with hp1 | hp1 <;> rcases List.mem_cons.1 hq with hq1 | hq1
  ·rw [hp1, hq1]
  ·exact absurd (by rw [← hp1, e]; exact List.mem_map_of_mem hq1) h.1
  ·exact absurd (by rw [← hq1, ← e]; exact List.mem_map_of_mem hp1) h.1
  ·exact nodup_inj h.2 p hp1 q hq1 e
/-- One cut more: it goes to its feature's first or second row, and to the third if so told. -/
theorem RowsE.put {E : List (S71 × S56)} {G : List (Int × Nat)} {X X' : Nat → Nat → List S56} (h : RowsE E G X) (hk : (G.map Prod.fst).Nodup) (hb : ∀ p ∈ G, ∀ q ∈ G, p.2 = q.2 → p = q) {p : Int × Nat} (hp : p ∈ G) (e : S71 × S56) (he : e.1.f2 = p.1)
  (hX : ∀ i, i < 3 → X' p.2 i = if inRow p.1 i e = true then X p.2 i ++ [e.2] else X p.2 i) (ho : ∀ a i, a ≠ p.2 → X' a i = X a i) : RowsE (E ++ [e]) G X' := by
 refine ⟨fun q hq i hi => ?_, fun e' he' => ?_⟩
 ·by_cases eq : q = p
  ·subst eq
   rw [rowOf_snoc, hX i hi, h.rows q hp i hi]
  ·have h1 : q.1 ≠ p.1 := fun e1 => eq (nodup_inj hk q hq p hp e1)
   rw [rowOf_snoc, inRow_other i (by rw [he]; exact Ne.symm h1), if_neg (by decide), ho q.2 i (fun e2 => eq (hb q hq p hp e2))]
   exact h.rows q hq i hi
 ·rcases List.mem_append.1 he' with h1 | h1
  ·exact h.come e' h1
  ·rw [List.mem_singleton.1 h1]
   exact ⟨p, hp, he.symm⟩
theorem marks_node {ns : List S71} : ∀ (T : BT) (f : Nat), Is ns.length (innN ns) (klN ns) (krN ns) T → ∀ m ∈ BT.marks T f, 0 ≤ m.f0 ∧ m.f0 < (ns.length : Int) ∧ innN ns m.f0.toNat = true
 | .leaf _, _, _, m, hm => absurd hm List.not_mem_nil
 | .node i l r, f, ⟨hi, hin, _, _, h1, h2⟩, m, hm => by
  simp only [BT.marks, List.mem_cons, List.mem_append] at hm
  rcases hm with rfl | hm | hm
  ·refine ⟨Int.natCast_nonneg _, by show (i : Int) < _; omega, ?_⟩
   show innN ns (i : Int).toNat = true
   rw [Int.toNat_natCast]
   exact hin
  ·exact marks_node l f h1 m hm
  ·exact marks_node r _ h2 m hm
/-- Each box's feature has come. -/
def Feat (E : List (S71 × S56)) (G : List (Int × Nat)) : Prop := ∀ p ∈ G, ∃ e ∈ E, e.1.f2 = p.1
def Feat1 (f : Int) (E : List (S71 × S56)) (G : List (Int × Nat)) : Prop := ∀ p ∈ G, p.1 = f ∨ ∃ e ∈ E, e.1.f2 = p.1
theorem Feat1.put {E : List (S71 × S56)} {G : List (Int × Nat)} {e : S71 × S56} {f : Int} (h : Feat1 f E G) (he : e.1.f2 = f) : Feat (E ++ [e]) G := fun p hp => by
 rcases h p hp with h1 | ⟨e', h1, h2⟩
 ·exact ⟨e, by simp, he.trans h1.symm⟩
 ·exact ⟨e', List.mem_append_left _ h1, h2⟩
/-- A row's cuts have numbers of 64 bits. -/
theorem evTo_bits {ts : List S53} (hF : ∀ y ∈ ts, TreeFine y.f1) (hb : ∀ y ∈ ts, ∀ x ∈ y.f1, x.f3 < 2 ^ 64) : ∀ e ∈ evTo ts ts.length, e.2.f0 < 2 ^ 64 := by
 intro e he
 unfold evTo at he
 obtain ⟨k, hk, he⟩ := List.mem_flatMap.1 he
 rw [List.mem_range] at hk
 unfold evT at he
 obtain ⟨m, hm, rfl⟩ := List.mem_map.1 he
 have hy := rdT_mem ts k hk
 obtain ⟨h0, h1, _⟩ := marks_node (ns := (rd_T53 ts (k : Int)).f1) _ 0 (treeV_is (hF _ hy)).is m hm
 refine hb _ hy _ ?_
 unfold rd_T71
 rw [List.getD_eq_getElem?_getD, List.getElem?_eq_getElem (show m.f0.toNat < _ by omega)]
 exact List.getElem_mem _
/-- What trees without an error are. -/
structure GoodL (F : Int) (ts : List S53) : Prop where
 f0 : 0 ≤ F
 f1 : F ≤ 65536
 len : ts.length ≤ 65536
 fine : ∀ y ∈ ts, (shapeV y).1 = 0
 few : ∀ y ∈ ts, (leavesL y.f1 (treeV y.f1)).length ≤ 4096
 near : ∀ y ∈ ts, ∀ x ∈ y.f1, x.f0 ≠ 1 → x.f2 < F
theorem faultL_good {F : Int} : ∀ {ts : List S53}, faultL F ts = 0 → ∀ y ∈ ts, faultT F y = 0
 | [], _, y, hy => absurd hy List.not_mem_nil
 | z :: r, h, y, hy => by
  unfold faultL at h
  by_cases h0 : faultT F z = 0
  ·rw [if_neg (fun e => e h0)] at h
   rcases List.mem_cons.1 hy with rfl | hy
   ·exact h0
   ·exact faultL_good h y hy
  ·rw [if_pos h0] at h
   exact absurd h h0
theorem fault_good {F : Int} {ts : List S53} (h : faultV F ts = 0) : GoodL F ts := by
 unfold faultV at h
 by_cases h1 : F < 0 ∨ 65536 < F
 ·rw [if_pos h1] at h; exact absurd h (by decide)
 rw [if_neg h1] at h
 by_cases h2 : 65536 < ts.length
 ·rw [if_pos h2] at h; exact absurd h (by decide)
 rw [if_neg h2] at h
 have hT := fun y hy => faultL_good h y hy
 have hs : ∀ y ∈ ts, (shapeV y).1 = 0 := fun y hy => by
  have := hT y hy
  unfold faultT at this
  by_cases h3 : (shapeV y).1 = 0
  ·exact h3
  ·rw [if_pos h3] at this; exact absurd this h3
 have hl : ∀ y ∈ ts, (leavesL y.f1 (treeV y.f1)).length ≤ 4096 := fun y hy => by
  have := hT y hy
  unfold faultT at this
  rw [if_neg (fun e => e (hs y hy))] at this
  by_cases h3 : 4096 < (leavesL y.f1 (treeV y.f1)).length
  ·rw [if_pos h3] at this; exact absurd this (by decide)
  ·omega
 refine ⟨by omega, by omega, by omega, hs, hl, fun y hy x hx hk => ?_⟩
 have := hT y hy
 unfold faultT at this
 rw [if_neg (fun e => e (hs y hy)), if_neg (by have := hl y hy; omega)] at this
 by_cases h3 : y.f1.any (farB F) = true
 ·rw [if_pos h3] at this; exact absurd this (by decide)
 ·rw [List.any_eq_true] at h3
  by_cases h4 : F ≤ x.f2
  ·exact absurd ⟨x, hx, by unfold farB; rw [bne_iff_ne.mpr hk, decide_eq_true h4]; rfl⟩ h3
  ·omega
theorem BT.outer_inner : ∀ T : BT, T.outer.length = T.inner.length + 1
 | .leaf _ => rfl
 | .node i l r => by
  have := BT.outer_inner l
  have := BT.outer_inner r
  simp only [BT.outer, BT.inner, List.length_append, List.length_cons]
  omega
/-- A good tree has fewer marks than leaves. -/
theorem marks_few {y : S53} (ok : TreeFine y.f1) (h : (leavesL y.f1 (treeV y.f1)).length ≤ 4096) : (BT.marks (treeV y.f1) 0).length ≤ 4095 := by
 have hT := treeV_is ok
 have h1 : (leavesL y.f1 (treeV y.f1)).length = (treeV y.f1).outer.length := by
  rw [pre_outer (n := y.f1.length) (inn := innN y.f1) (kl := klN y.f1) (kr := krN y.f1) _ hT.is]
  unfold leavesL took
  rw [List.length_map, BT.preD_fst]
  congr 1
  apply List.filter_congr
  intro i _
  cases innN y.f1 i <;> rfl
 have h2 := BT.outer_inner (treeV y.f1)
 rw [BT.marks_len]
 omega
theorem evTo_len {F : Int} {ts : List S53} (hG : GoodL F ts) (hT : ∀ y ∈ ts, TreeFine y.f1) : ∀ n, n ≤ ts.length → (evTo ts n).length ≤ 4095 * n
 | 0, _ => by simp [evTo]
 | n + 1, h => by
  have := evTo_len hG hT n (by omega)
  have hm := rdT_mem ts n (by omega)
  have h2 := marks_few (hT _ hm) (hG.few _ hm)
  rw [evTo_succ, List.length_append]
  unfold evT
  rw [List.length_map]
  omega
/-- What lists.Of answers, of cuts one by one. -/
structure OfSpec (E : List (S71 × S56)) (ys : List S35) : Prop where
 rises : ys.Pairwise fun a b => a.f0 < b.f0
 mem : ∀ f, (∃ y ∈ ys, y.f0 = f) ↔ ∃ e ∈ E, e.1.f2 = f
 rows : ∀ y ∈ ys, StEq ltC (rowOf E y.f0 0) y.f1 ∧ RisesS ltC y.f1 ∧ y.f2 = rowOf E y.f0 1 ∧ y.f3 = rowOf E y.f0 2
theorem eqv_self {α : Type} {lt : α → α → Bool} (hS : SWO lt) (x : α) : eqv lt x x = true := by unfold eqv; rw [hS.irrefl]; rfl
theorem few_eqv {α : Type} {lt : α → α → Bool} (hS : SWO lt) : ∀ {l : List α}, l.Pairwise (fun a b => eqv lt a b = false) → ∀ x, (l.filter (eqv lt x)).length ≤ 1
 | [], _, x => by simp
 | a :: l, h, x => by
  obtain ⟨h1, h2⟩ := List.pairwise_cons.1 h
  by_cases hx : eqv lt x a = true
  ·rw [List.filter_cons_of_pos hx, eqv_congr hS hx, List.filter_eq_nil_iff.2 (fun b hb => by rw [h1 b hb]; decide)]
   simp
  ·rw [List.filter_cons_of_neg hx]
   exact few_eqv hS h2 x
theorem eqv_few {α : Type} {lt : α → α → Bool} (hS : SWO lt) : ∀ {l : List α}, (∀ x, (l.filter (eqv lt x)).length ≤ 1) → l.Pairwise (fun a b => eqv lt a b = false)
 | [], _ => List.Pairwise.nil
 | a :: l, h => by
  refine List.pairwise_cons.2 ⟨fun b hb => ?_, eqv_few hS fun x => ?_⟩
  ·have := h a
   rw [List.filter_cons_of_pos (eqv_self hS a), List.length_cons] at this
   have h0 : l.filter (eqv lt a) = [] := List.eq_nil_of_length_eq_zero (by omega)
   have := List.filter_eq_nil_iff.1 h0 b hb
   simpa using this
  ·refine Nat.le_trans ?_ (h x)
   by_cases hx : eqv lt x a = true
   ·rw [List.filter_cons_of_pos hx, List.length_cons]; omega
   ·rw [List.filter_cons_of_neg hx]; exact Nat.le_refl _
theorem spec_of {E : List (S71 × S56)} {outs ys : List S35} (hk : outs.Pairwise fun a b => a.f0 ≠ b.f0) (hst : StEq ltL outs ys) (hr : RisesS ltL ys) (hm : ∀ f, (∃ y ∈ outs, y.f0 = f) ↔ ∃ e ∈ E, e.1.f2 = f)
  (hrows : ∀ y ∈ outs, StEq ltC (rowOf E y.f0 0) y.f1 ∧ RisesS ltC y.f1 ∧ y.f2 = rowOf E y.f0 1 ∧ y.f3 = rowOf E y.f0 2) : OfSpec E ys := by
 have h1 : outs.Pairwise fun a b => eqv ltL a b = false := hk.imp fun {a b} h => by
  unfold eqv ltL
  rcases Int.lt_or_gt_of_ne h with h | h <;> simp [h]
 have h2 := eqv_few swoL (l := ys) fun x => by rw [hst x]; exact few_eqv swoL h1 x
 have hmem : ∀ y, y ∈ ys ↔ y ∈ outs := fun y => hst.mem swoL y
 refine ⟨?_, fun f => ?_, fun y hy => hrows y ((hmem y).1 hy)⟩
 ·refine (hr.and h2).imp fun {a b} h => ?_
  obtain ⟨h3, h4⟩ := h
  unfold eqv ltL at h4
  unfold ltL at h3
  simp at h3 h4
  omega
 ·rw [← hm f]
  constructor
  ·rintro ⟨y, hy, rfl⟩
   exact ⟨y, (hmem y).1 hy, rfl⟩
  ·rintro ⟨y, hy, rfl⟩
   exact ⟨y, (hmem y).2 hy, rfl⟩
end Go.Proofs.Ytfmjgjfbnilpoaa.FAll
/-
 lists.Of, the range over the map: what it keeps.
-/
namespace Go.Proofs.Ytfmjgjfbnilpoaa.FAll
open Go.RowKit Go.Sort Go.Maps YtfmjgjfbnilpoaaW.PrintWords YtfmjgjfbnilpoaaW.PrintLast YtfmjgjfbnilpoaaW.PrintMore
set_option linter.unusedVariables false
set_option linter.unusedSimpArgs false
set_option linter.unusedSectionVars false
/-- The blocks of the list that is answered. -/
def okOut (own : Nat → Option (Nat × Nat)) (done : List (Int × Nat)) (k : Nat) : Prop := own k = some (0, 3) ∨ ∃ p ∈ done, ∃ i, i < 3 ∧ own k = some (p.2, i)
structure InP (w0 : World) (E : List (S71 × S56)) (G : List (Int × Nat)) (V : Nat → Nat → Value) (X : Nat → Nat → List S56) (own : Nat → Option (Nat × Nat)) (done : List (Int × Nat)) (left : Lit → Bool) (v : Value) (W : World) : Prop where
 ib : InB w0 G V X own W
 sub : ∀ p ∈ done, p ∈ G ∧ left (.int .i64 p.1) = false
 rest : ∀ p ∈ G, left (.int .i64 p.1) = false → p ∈ done
 keys : (done.map Prod.fst).Nodup
 raw : ∀ p ∈ G, p ∉ done → ∀ i, i < 3 → X p.2 i = rowOf E p.1 i
 fin : ∀ p ∈ done, StEq ltC (rowOf E p.1 0) (X p.2 0) ∧ RisesS ltC (X p.2 0) ∧ X p.2 1 = rowOf E p.1 1 ∧ X p.2 2 = rowOf E p.1 2
 row : Kd.R k35 35 W w0.heap.size (okOut own done) v (done.map fun p => ⟨p.1, X p.2 0, X p.2 1, X p.2 2⟩)
 tag : ∀ b, v.ownBlock = some b → own b = some (0, 3)
section
variable {w0 W W' : World} {E : List (S71 × S56)} {G : List (Int × Nat)} {V : Nat → Nat → Value} {X : Nat → Nat → List S56} {own : Nat → Option (Nat × Nat)} {done : List (Int × Nat)} {left : Lit → Bool} {v : Value}
theorem InP.start {D : DataW Unit} (h : InB w0 G V X own W) (hd : InD D G) (hr : RowsE E G X) : InP w0 E G V X own [] (has D) (.slice none 0 0) W := by
 have h1 : ∀ p ∈ G, has D (.int .i64 p.1) = false → p ∈ ([] : List (Int × Nat)) := fun p hp hl => by
  have h2 := has_true_of_atKey (fun z => hd.at_ p hp z)
  rw [hl] at h2
  exact absurd h2 (by decide)
 exact ⟨h, fun p hp => absurd hp List.not_mem_nil, h1, List.nodup_nil, fun p hp _ => hr.rows p hp, fun p hp => absurd hp List.not_mem_nil, Kd.R_nil _ _ _ _ _, fun b hb => by simp [Value.ownBlock] at hb⟩
theorem InP.beside (h : InP w0 E G V X own done left v W) {b : Nat} (hg : W.grownBy W' (some b)) (hb : Below w0.heap.size w0 W') (hne : ∀ (cs : Array Value) (t : TypeId), W.heap[b]? ≠ some (.cells cs t (0, 0))) : InP w0 E G V X own done left v W' :=
 ⟨h.ib.beside hg hb hne, h.sub, h.rest, h.keys, h.raw, h.fin, Kd.R_mono (Kd.R_grown (Kd.R_bound h.row) hg (fun k hk e => by
  obtain ⟨_, _, _, q, _, cells, hc⟩ := hk
  rw [Option.some.inj e] at hc
  exact hne _ _ hc)) (fun k hk => hk.1), h.tag⟩
theorem InP.fresh (h : InP w0 E G V X own done left v W) {p : Int × Nat} (hp : p ∈ G) (hl : left (.int .i64 p.1) = true) : p ∉ done := fun hd => by
 have := (h.sub p hd).2
 rw [hl] at this
 cases this
theorem InP.apart (h : InP w0 E G V X own done left v W) {p : Int × Nat} (hp : p ∈ G) (hl : left (.int .i64 p.1) = true) {q : Int × Nat} (hq : q ∈ done) : q.2 ≠ p.2 := fun e => h.fresh hp hl (h.ib.boxes q (h.sub q hq).1 p hp e ▸ hq)
theorem InP.noOut (h : InP w0 E G V X own done left v W) {p : Int × Nat} (hp : p ∈ G) (hl : left (.int .i64 p.1) = true) {i k : Nat} (hi : i < 3) (hk : okOut own done k) : own k ≠ some (p.2, i) := fun e => by
 rcases hk with h1 | ⟨q, hq, j, _, h1⟩
 ·rw [e] at h1
  injection h1 with h1
  injection h1 with _ h1
  omega
 ·rw [e] at h1
  injection h1 with h1
  injection h1 with h1 _
  exact h.apart hp hl hq h1.symm
/-- The entry's first row has been sorted. -/
theorem InP.sorted (h : InP w0 E G V X own done left v W) {p : Int × Nat} (hp : p ∈ G) (hl : left (.int .i64 p.1) = true) {ys : List S56} (hR : Kd.R k56 56 W' w0.heap.size (fun k => own k = some (p.2, 0)) (V p.2 0) ys) (hg : W.grownBy W' (V p.2 0).ownBlock) (hb : Below w0.heap.size w0 W') :
  InB w0 G V (upd X p.2 0 ys) own W' ∧ Kd.R k35 35 W' w0.heap.size (okOut own done) v (done.map fun q => ⟨q.1, X q.2 0, X q.2 1, X q.2 2⟩) :=
 ⟨h.ib.turn hp (by decide) hR hg hb, Kd.R_grown h.row hg (fun k hk e => h.noOut hp hl (by decide) hk ((h.ib.row p hp 0 (by decide)).1 k e.symm))⟩
/-- What the append of the entry's list asks. -/
theorem out_old (hr : Kd.R k35 35 W w0.heap.size (okOut own done) v (done.map fun q => ⟨q.1, X q.2 0, X q.2 1, X q.2 2⟩)) (p : Int × Nat) : Kd.R k35 35 W w0.heap.size (okOut (reown own W.heap.size (0, 3)) (done ++ [p])) v (done.map fun q => ⟨q.1, X q.2 0, X q.2 1, X q.2 2⟩) :=
 Kd.R_mono (Kd.R_bound hr) (fun k hk => by
  have e := retag_old (own := own) (t := (0, 3)) hk.2.2.1
  unfold okOut
  rw [e]
  rcases hk.1 with h1 | ⟨q, hq, i, hi, h1⟩
  ·exact .inl h1
  ·exact .inr ⟨q, List.mem_append_left _ hq, i, hi, h1⟩)
theorem out_new (h : InB w0 G V X own W) {p : Int × Nat} (hp : p ∈ G) : k35.M W w0.heap.size (fun k => ∃ i, i < 3 ∧ reown own W.heap.size (0, 3) k = some (p.2, i)) (⟨p.1, X p.2 0, X p.2 1, X p.2 2⟩ : S35) [.int .i64 p.1, V p.2 0, V p.2 1, V p.2 2] :=
 k35_mkM W w0.heap.size _ (⟨p.1, X p.2 0, X p.2 1, X p.2 2⟩ : S35) (Kd.R_mono (Kd.R_bound (h.row p hp 0 (by decide))) (fun k hk => ⟨0, by decide, (retag_old hk.2.2.1).trans hk.1⟩)) (Kd.R_mono (Kd.R_bound (h.row p hp 1 (by decide))) (fun k hk => ⟨1, by decide, (retag_old hk.2.2.1).trans hk.1⟩)) (Kd.R_mono (Kd.R_bound (h.row p hp 2 (by decide))) (fun k hk => ⟨2, by decide, (retag_old hk.2.2.1).trans hk.1⟩))
theorem out_apart (h : InP w0 E G V X own done left v W) (hlt : ∀ b, v.ownBlock = some b → b < W'.heap.size) {p : Int × Nat} (k : Nat) (hk : ∃ i, i < 3 ∧ reown own W'.heap.size (0, 3) k = some (p.2, i)) : okOut (reown own W'.heap.size (0, 3)) (done ++ [p]) k ∧ some k ≠ v.ownBlock := by
 obtain ⟨i, hi, hk⟩ := hk
 refine ⟨.inr ⟨p, by simp, i, hi, hk⟩, fun e => ?_⟩
 have h1 := h.tag k e.symm
 rw [retag_old (hlt k e.symm), h1] at hk
 injection hk with hk
 injection hk with _ hk
 omega
/-- The list has got the entry's. -/
theorem InP.next (h : InP w0 E G V X own done left v W) {p : Int × Nat} (hp : p ∈ G) (hl : left (.int .i64 p.1) = true) {W2 w4 : World} {ys : List S56} (hst : StEq ltC (X p.2 0) ys) (hrs : RisesS ltC ys) (hb2 : InB w0 G V (upd X p.2 0 ys) own W2) (hlt : ∀ b, v.ownBlock = some b → b < W2.heap.size) {v4 : Value}
  (hR : Kd.R k35 35 w4 w0.heap.size (okOut (reown own W2.heap.size (0, 3)) (done ++ [p])) v4 ((done.map fun q => ⟨q.1, X q.2 0, X q.2 1, X q.2 2⟩) ++ [(⟨p.1, upd X p.2 0 ys p.2 0, upd X p.2 0 ys p.2 1, upd X p.2 0 ys p.2 2⟩ : S35)])) (hg : W2.grownBy w4 v.ownBlock) (hb : Below w0.heap.size w0 w4) (hat : v4.ownBlock = v.ownBlock ∨ ∃ b, v4.ownBlock = some b ∧ W2.heap.size ≤ b) :
  InP w0 E G V (upd X p.2 0 ys) (reown own W2.heap.size (0, 3)) (done ++ [p]) (fun z => left z && !z.sameKey (.int .i64 p.1)) v4 w4 := by
 have hnd := h.fresh hp hl
 have hX : ∀ q ∈ done, ∀ i, upd X p.2 0 ys q.2 i = X q.2 i := fun q hq i => upd_other X ys (fun e => h.apart hp hl hq e.1)
 have hb3 := hb2.retag (0, 3)
 have hv : ∀ b, v.ownBlock = some b → reown own W2.heap.size (0, 3) b = some (0, 3) := fun b e => (retag_old (hlt b e)).trans (h.tag b e)
 refine ⟨⟨hb3.keys, hb3.boxes, hb3.base, hb3.tag, fun q hq => ?_, fun q hq i hi => ?_, hb⟩, fun q hq => ?_, fun q hq hlq => ?_, ?_, fun q hq hnq i hi => ?_, fun q hq => ?_, ?_, fun b e => ?_⟩
 ·refine blk_grown (hb3.box q hq) hg (fun e => ?_)
  have := hv q.2 e.symm
  rw [hb3.tag q hq] at this
  injection this with this
  injection this with _ this
  cases this
 ·refine Kd.R_grown (hb3.row q hq i hi) hg (fun k hk e => ?_)
  have := hv k e.symm
  rw [show reown own W2.heap.size (0, 3) k = some (q.2, i) from hk] at this
  injection this with this
  injection this with _ this
  omega
 ·rcases List.mem_append.1 hq with hq | hq
  ·exact ⟨(h.sub q hq).1, by rw [(h.sub q hq).2]; rfl⟩
  ·rw [List.mem_singleton.1 hq]
   exact ⟨hp, by simp [Lit.sameKey]⟩
 ·by_cases e : q.1 = p.1
  ·have : q = p := nodup_inj h.ib.keys q hq p hp e
   rw [this]
   simp
  ·have h1 : (Lit.int .i64 q.1).sameKey (.int .i64 p.1) = false := by simp [Lit.sameKey, e]
   rw [h1] at hlq
   exact List.mem_append_left _ (h.rest q hq (by simpa using hlq))
 ·rw [List.map_append, List.nodup_append]
  refine ⟨h.keys, by simp, fun a ha b hb' e => ?_⟩
  obtain ⟨q, hq, rfl⟩ := List.mem_map.1 ha
  simp only [List.map_cons, List.map_nil, List.mem_singleton] at hb'
  have : q = p := nodup_inj h.ib.keys q (h.sub q hq).1 p hp (e.trans hb')
  exact hnd (this ▸ hq)
 ·have h1 : q ∉ done := fun hd => hnq (List.mem_append_left _ hd)
  have h2 : q ≠ p := fun e => hnq (by rw [e]; simp)
  rw [upd_other X ys (fun e => h2 (h.ib.boxes q hq p hp e.1))]
  exact h.raw q hq h1 i hi
 ·rcases List.mem_append.1 hq with hq | hq
  ·rw [hX q hq, hX q hq, hX q hq]
   exact h.fin q hq
  ·rw [List.mem_singleton.1 hq, upd_same, upd_other X ys (by omega), upd_other X ys (by omega), ← h.raw p hp hnd 0 (by decide)]
   exact ⟨hst, hrs, h.raw p hp hnd 1 (by decide), h.raw p hp hnd 2 (by decide)⟩
 ·rw [List.map_append, List.map_cons, List.map_nil, List.map_congr_left (g := fun q => (⟨q.1, X q.2 0, X q.2 1, X q.2 2⟩ : S35)) (fun q hq => by rw [hX q hq, hX q hq, hX q hq])]
  exact hR
 ·rcases hat with h1 | ⟨b', h1, h2⟩
  ·rw [h1] at e
   exact hv b e
  ·rw [h1] at e
   injection e with e
   rw [← e]
   exact retag_new h2
theorem InP.outs_spec {X' : Nat → Nat → List S56} (h : InP w0 E G V X own done left v W) (hl : ∀ kl, left kl = false) (hr : RowsE E G X') (hf : Feat E G) {ys : List S35} (hst : StEq ltL (done.map fun p => ⟨p.1, X p.2 0, X p.2 1, X p.2 2⟩) ys) (hrs : RisesS ltL ys) : OfSpec E ys := by
 refine spec_of ?_ hst hrs (fun f => ?_) (fun y hy => ?_)
 ·rw [List.pairwise_map]
  exact List.pairwise_map.1 h.keys
 ·constructor
  ·rintro ⟨y, hy, rfl⟩
   obtain ⟨p, hp, rfl⟩ := List.mem_map.1 hy
   exact hf p (h.sub p hp).1
  ·rintro ⟨e, he, rfl⟩
   obtain ⟨p, hp, h1⟩ := hr.come e he
   exact ⟨_, List.mem_map_of_mem (h.rest p hp (hl _)), h1⟩
 ·obtain ⟨p, hp, rfl⟩ := List.mem_map.1 hy
  exact h.fin p hp
end
end Go.Proofs.Ytfmjgjfbnilpoaa.FAll
