/-
 thicketref14.Of, what its loops keep: a row of lists, each with three rows of cuts of its own (cuts may share their categories), and a map of places.
-/
import Derived.Test.YtfmjgjfbnilpoaaUc
import Derived.Test.YtfmjgjfbnilpoaaVa
namespace Go.Proofs.Ytfmjgjfbnilpoaa.FAll
open Go.RowKit Go.Sort Go.Maps YtfmjgjfbnilpoaaW.PrintWords YtfmjgjfbnilpoaaW.PrintLast YtfmjgjfbnilpoaaW.PrintMore
set_option linter.unusedVariables false
set_option linter.unusedSimpArgs false
set_option linter.unusedSectionVars false
def okRow (own : Nat → Option (Nat × Nat)) (a i k : Nat) : Prop := own k = some (a, i) ∨ own k = some (0, 5)
def outC (V : Nat → Nat → Value) (p : Int × Nat) : List Value := [.int .i64 p.1, V p.2 0, V p.2 1, V p.2 2]
/-- The rows of cuts. -/
structure InO (w0 : World) (G : List (Int × Nat)) (V : Nat → Nat → Value) (X : Nat → Nat → List S56) (own : Nat → Option (Nat × Nat)) (W : World) : Prop where
 keys : (G.map Prod.fst).Nodup
 num : ∀ (j : Nat) (p : Int × Nat), G[j]? = some p → p.2 = j + 1
 vtag : ∀ p ∈ G, ∀ i, i < 3 → ∀ b, (V p.2 i).ownBlock = some b → own b = some (p.2, i)
 row : ∀ p ∈ G, ∀ i, i < 3 → Kd.R k56 56 W w0.heap.size (okRow own p.2 i) (V p.2 i) (X p.2 i)
 below : Below w0.heap.size w0 W
/-- The row of lists. -/
structure OutO (w0 : World) (G : List (Int × Nat)) (V : Nat → Nat → Value) (own : Nat → Option (Nat × Nat)) (v : Value) (W : World) : Prop where
 tag : ∀ b, v.ownBlock = some b → own b = some (0, 3)
 row : Kd.R (Kd.raw 4) 35 W w0.heap.size (fun k => own k = some (0, 3)) v (G.map (outC V))
section
variable {w0 W W' : World} {G : List (Int × Nat)} {V : Nat → Nat → Value} {X : Nat → Nat → List S56} {own : Nat → Option (Nat × Nat)} {v : Value}
theorem InO.start (w0 W : World) (V : Nat → Nat → Value) (X : Nat → Nat → List S56) (own : Nat → Option (Nat × Nat)) (hb : Below w0.heap.size w0 W) : InO w0 [] V X own W :=
 ⟨List.nodup_nil, fun j p h => by simp at h, fun p hp => absurd hp List.not_mem_nil, fun p hp => absurd hp List.not_mem_nil, hb⟩
theorem OutO.start (w0 W : World) (V : Nat → Nat → Value) (own : Nat → Option (Nat × Nat)) : OutO w0 [] V own (.slice none 0 0) W := ⟨fun b hb => by simp [Value.ownBlock] at hb, Kd.R_nil _ _ _ _ _⟩
theorem InO.at_ (h : InO w0 G V X own W) {p : Int × Nat} (hp : p ∈ G) : ∃ j, j < G.length ∧ G[j]? = some p ∧ p.2 = j + 1 := by
 obtain ⟨j, hj⟩ := List.mem_iff_getElem?.1 hp
 exact ⟨j, (List.getElem?_eq_some_iff.1 hj).1, hj, h.num j p hj⟩
theorem InO.pos (h : InO w0 G V X own W) {p : Int × Nat} (hp : p ∈ G) : 1 ≤ p.2 := by
 obtain ⟨j, _, _, e⟩ := h.at_ hp
 omega
theorem InO.boxes (h : InO w0 G V X own W) : ∀ p ∈ G, ∀ q ∈ G, p.2 = q.2 → p = q := fun p hp q hq e => by
 obtain ⟨j, _, h1, e1⟩ := h.at_ hp
 obtain ⟨j', _, h2, e2⟩ := h.at_ hq
 have : j = j' := by omega
 subst this
 rw [h1] at h2
 exact Option.some.inj h2
theorem InO.step (h : InO w0 G V X own W) (hb : Below W.heap.size W W') : InO w0 G V X own W' :=
 ⟨h.keys, h.num, h.vtag, fun p hp i hi => Kd.R_below (h.row p hp i hi) hb, below_step h.below hb⟩
theorem OutO.step (h : OutO w0 G V own v W) (hb : Below W.heap.size W W') : OutO w0 G V own v W' := ⟨h.tag, Kd.R_below h.row hb⟩
/-- A block has turned that is no row's: a box, or the row of lists. -/
theorem InO.tagged (h : InO w0 G V X own W) {row : Option Nat} (hg : W.grownBy W' row) (hb : Below w0.heap.size w0 W') (ht : ∀ b, row = some b → own b = some (0, 3) ∨ own b = some (0, 4)) : InO w0 G V X own W' :=
 ⟨h.keys, h.num, h.vtag, fun p hp i hi => Kd.R_grown (h.row p hp i hi) hg (fun k hk e => by
  have hp1 := h.pos hp
  rcases hk with hk | hk <;> rcases ht k e.symm with h1 | h1 <;> rw [hk] at h1 <;> injection h1 with h1 <;> injection h1 with h1 h2 <;> omega), hb⟩
theorem InO.beside (h : InO w0 G V X own W) {b : Nat} (hg : W.grownBy W' (some b)) (hb : Below w0.heap.size w0 W') (hne : ∀ (cs : Array Value) (t : TypeId), W.heap[b]? ≠ some (.cells cs t (0, 0))) : InO w0 G V X own W' :=
 ⟨h.keys, h.num, h.vtag, fun p hp i hi => Kd.R_mono (Kd.R_grown (Kd.R_bound (h.row p hp i hi)) hg (fun k hk e => by
  obtain ⟨_, _, _, q, _, cells, hc⟩ := hk
  rw [Option.some.inj e] at hc
  exact hne _ _ hc)) (fun k hk => hk.1), hb⟩
theorem OutO.beside (h : OutO w0 G V own v W) {b : Nat} (hg : W.grownBy W' (some b)) (hne : ∀ (cs : Array Value) (t : TypeId), W.heap[b]? ≠ some (.cells cs t (0, 0))) : OutO w0 G V own v W' :=
 ⟨h.tag, Kd.R_mono (Kd.R_grown (Kd.R_bound h.row) hg (fun k hk e => by
  obtain ⟨_, _, _, q, _, cells, hc⟩ := hk
  rw [Option.some.inj e] at hc
  exact hne _ _ hc)) (fun k hk => hk.1)⟩
theorem OutO.kept (h : OutO w0 G V own v W) {row : Option Nat} (hg : W.grownBy W' row) (hne : ∀ b, row = some b → own b ≠ some (0, 3)) : OutO w0 G V own v W' :=
 ⟨h.tag, Kd.R_grown h.row hg (fun k hk e => hne k e.symm hk)⟩
theorem InO.retag (h : InO w0 G V X own W) (t : Nat × Nat) : InO w0 G V X (reown own W.heap.size t) W :=
 ⟨h.keys, h.num, fun p hp i hi b hb => (retag_old (Kd.R_lt (h.row p hp i hi) b hb)).trans (h.vtag p hp i hi b hb), fun p hp i hi => Kd.R_mono (Kd.R_bound (h.row p hp i hi)) (fun k hk => by
  have e := retag_old (own := own) (t := t) hk.2.2.1
  unfold okRow
  rw [e]
  exact hk.1), h.below⟩
theorem OutO.retag (h : OutO w0 G V own v W) (t : Nat × Nat) : OutO w0 G V (reown own W.heap.size t) v W :=
 ⟨fun b hb => (retag_old (Kd.R_lt h.row b hb)).trans (h.tag b hb), Kd.R_mono (Kd.R_bound h.row) (fun k hk => (retag_old hk.2.2.1).trans hk.1)⟩
/-- A row has grown, or turned. -/
theorem InO.push (h : InO w0 G V X own W) {p : Int × Nat} (hp : p ∈ G) {i : Nat} (hi : i < 3) {v : Value} {xs : List S56} (hR : Kd.R k56 56 W' w0.heap.size (okRow own p.2 i) v xs) (hg : W.grownBy W' (V p.2 i).ownBlock) (hb : Below w0.heap.size w0 W') (hat : v.ownBlock = (V p.2 i).ownBlock ∨ ∃ b, v.ownBlock = some b ∧ W.heap.size ≤ b) (hnew : ∀ b, W.heap.size ≤ b → own b = some (p.2, i)) :
  InO w0 G (upd V p.2 i v) (upd X p.2 i xs) own W' := by
 refine ⟨h.keys, h.num, fun q hq j hj b hb' => ?_, fun q hq j hj => ?_, hb⟩
 ·by_cases e : q.2 = p.2 ∧ j = i
  ·obtain ⟨e1, rfl⟩ := e
   rw [e1, upd_same] at hb'
   rw [e1]
   rcases hat with h1 | ⟨b2, h1, h2⟩
   ·exact h.vtag p hp j hj b (h1 ▸ hb')
   ·rw [h1] at hb'
    injection hb' with hb'
    exact hnew b (by omega)
  ·rw [upd_other V v e] at hb'
   exact h.vtag q hq j hj b hb'
 ·by_cases e : q.2 = p.2 ∧ j = i
  ·obtain ⟨e1, rfl⟩ := e
   rw [e1, upd_same, upd_same]
   exact hR
  ·rw [upd_other X xs e, upd_other V v e]
   refine Kd.R_grown (h.row q hq j hj) hg (fun k hk e2 => ?_)
   have h1 := h.vtag p hp i hi k e2.symm
   have hp1 := h.pos hp
   rcases hk with hk | hk <;> rw [hk] at h1 <;> injection h1 with h1 <;> injection h1 with h1 h2
   ·exact e ⟨h1, h2⟩
   ·omega
theorem InO.new (h : InO w0 G V X own W) (f : Int) (hf : ∀ p ∈ G, p.1 ≠ f) : InO w0 (G ++ [(f, G.length + 1)]) (fun a b => if a = G.length + 1 then .slice none 0 0 else V a b) (fun a b => if a = G.length + 1 then [] else X a b) own W := by
 have hlt : ∀ p ∈ G, p.2 ≠ G.length + 1 := fun p hp => by
  obtain ⟨j, hj, _, e⟩ := h.at_ hp
  omega
 refine ⟨?_, fun j p hj => ?_, fun p hp i hi b hb => ?_, fun p hp i hi => ?_, h.below⟩
 ·rw [List.map_append, List.nodup_append]
  refine ⟨h.keys, by simp, fun a ha b hb e => ?_⟩
  obtain ⟨p, hp, rfl⟩ := List.mem_map.1 ha
  simp only [List.map_cons, List.map_nil, List.mem_singleton] at hb
  exact hf p hp (e.trans hb)
 ·by_cases hl : j < G.length
  ·rw [List.getElem?_append_left hl] at hj
   exact h.num j p hj
  ·rw [List.getElem?_append_right (by omega)] at hj
   have : j - G.length = 0 := by
    by_cases h0 : j - G.length = 0
    ·exact h0
    ·rw [List.getElem?_eq_none (by simp; omega)] at hj
     cases hj
   rw [this] at hj
   have e : p = (f, G.length + 1) := (Option.some.inj hj).symm
   rw [e]
   show G.length + 1 = j + 1
   omega
 ·rcases List.mem_append.1 hp with hp | hp
  ·simp only [hlt p hp, if_false] at hb
   exact h.vtag p hp i hi b hb
  ·rw [List.mem_singleton.1 hp] at hb
   simp [Value.ownBlock] at hb
 ·rcases List.mem_append.1 hp with hp | hp
  ·simp only [hlt p hp, if_false]
   exact h.row p hp i hi
  ·rw [List.mem_singleton.1 hp]
   simp only [if_true]
   exact Kd.R_nil _ _ _ _ _
theorem outC_new (h : InO w0 G V X own W) (f : Int) : (G ++ [(f, G.length + 1)]).map (outC (fun a b => if a = G.length + 1 then .slice none 0 0 else V a b)) = G.map (outC V) ++ [[.int .i64 f, .slice none 0 0, .slice none 0 0, .slice none 0 0]] := by
 rw [List.map_append]
 congr 1
 ·refine List.map_congr_left fun p hp => ?_
  obtain ⟨j, hj, _, e⟩ := h.at_ hp
  have hne : p.2 ≠ G.length + 1 := by omega
  unfold outC
  simp only [hne, if_false]
 ·simp [outC]
theorem outC_one (h : InO w0 G V X own W) {p : Int × Nat} (hp : p ∈ G) : ∀ u ∈ outC V p, u.oneCell' = true := by
 intro u hu
 unfold outC at hu
 simp only [List.mem_cons, List.not_mem_nil, or_false] at hu
 rcases hu with rfl | rfl | rfl | rfl
 ·rfl
 ·obtain ⟨A, c, e, _⟩ := Kd.R_reads (h.row p hp 0 (by decide)); rw [e]; rfl
 ·obtain ⟨A, c, e, _⟩ := Kd.R_reads (h.row p hp 1 (by decide)); rw [e]; rfl
 ·obtain ⟨A, c, e, _⟩ := Kd.R_reads (h.row p hp 2 (by decide)); rw [e]; rfl
/-- The place of a list that is there. -/
theorem OutO.cells (h : OutO w0 G V own v W) (hi : InO w0 G V X own W) {p : Int × Nat} (hp : p ∈ G) : ∃ g cap, v = .slice (some ⟨g, 0, none⟩) G.length cap ∧ own g = some (0, 3) ∧ w0.heap.size ≤ g ∧ (∃ cells, W.heap[g]? = some (.cells cells 35 (0, 0))) ∧
  W.cell? ⟨g, (p.2 - 1) * 4, none⟩ = some (.int .i64 p.1) ∧ W.cell? ⟨g, (p.2 - 1) * 4 + 1, none⟩ = some (V p.2 0) ∧ W.cell? ⟨g, (p.2 - 1) * 4 + 2, none⟩ = some (V p.2 1) ∧ W.cell? ⟨g, (p.2 - 1) * 4 + 3, none⟩ = some (V p.2 2) := by
 obtain ⟨j, hj, hg, e⟩ := hi.at_ hp
 have hl : (G.map (outC V)).length = G.length := List.length_map ..
 obtain ⟨g, cap, e2, hb, hlt, cells, hc⟩ := Kd.R_form h.row (by rw [hl]; omega)
 rw [hl] at e2
 have hr := h.row
 rw [e2] at hr
 obtain ⟨c, hcl, hM, hcc, _⟩ := Kd.R_elem hr [] (j : Int) (by omega) (by omega)
 have e3 : c = outC V p := by
  rw [hM.1, Int.toNat_natCast, List.getD_eq_getElem?_getD, List.getElem?_map, hg]
  rfl
 rw [e3, Int.toNat_natCast] at hcc
 have e4 : p.2 - 1 = j := by omega
 rw [e4]
 exact ⟨g, cap, e2, h.tag g (by rw [e2]; rfl), hb, ⟨cells, hc⟩, hcc 0 _ rfl, hcc 1 _ rfl, hcc 2 _ rfl, hcc 3 _ rfl⟩
/-- As one row of lists. -/
theorem OutO.whole (h : OutO w0 G V own v W) (hi : InO w0 G V X own W) : Kd.R k35 35 W w0.heap.size (fun _ => True) v (G.map fun p => ⟨p.1, X p.2 0, X p.2 1, X p.2 2⟩) := by
 obtain ⟨h0, inner, hown, hreps⟩ := h.row
 refine ⟨fun _ _ => trivial, inner, by rw [List.length_map] at hown ⊢; exact hown, ?_⟩
 refine ⟨by rw [hreps.1, List.length_map, List.length_map]; rfl, fun j y hj => ?_⟩
 rw [List.getElem?_map] at hj
 cases hG : G[j]? with
 | none => rw [hG] at hj; cases hj
 | some p =>
  rw [hG] at hj
  have hy := Option.some.inj hj
  subst hy
  have hp : p ∈ G := List.mem_of_getElem? hG
  have hp1 := hi.pos hp
  have hM := hreps.2 j (outC V p) (by rw [List.getElem?_map, hG]; rfl)
  have e : (inner.drop (j * 4)).take 4 = outC V p := hM.1
  show k35.M W w0.heap.size _ _ ((inner.drop (j * 4)).take 4)
  rw [e]
  have hok : ∀ i, i < 3 → ∀ k, okRow own p.2 i k → True ∧ some k ≠ v.ownBlock := fun i hi' k hk => ⟨trivial, fun e => by
   have h1 := h.tag k e.symm
   rcases hk with hk | hk <;> rw [hk] at h1 <;> injection h1 with h1 <;> injection h1 with h1 h2 <;> omega⟩
  exact k35_mkM W w0.heap.size _ (⟨p.1, X p.2 0, X p.2 1, X p.2 2⟩ : S35) (Kd.R_mono (hi.row p hp 0 (by decide)) (hok 0 (by decide))) (Kd.R_mono (hi.row p hp 1 (by decide)) (hok 1 (by decide))) (Kd.R_mono (hi.row p hp 2 (by decide)) (hok 2 (by decide)))
/-- One list alone has been written over. -/
theorem outC_set (h : InO w0 G V X own W) {p : Int × Nat} (hp : p ∈ G) {V' : Nat → Nat → Value} (ho : ∀ a, a ≠ p.2 → V' a = V a) : (G.map (outC V)).set (p.2 - 1) (outC V' p) = G.map (outC V') := by
 obtain ⟨j, hj, hg, e⟩ := h.at_ hp
 rw [show p.2 - 1 = j by omega]
 apply List.ext_getElem?
 intro k
 rw [List.getElem?_set]
 by_cases hk : j = k
 ·subst hk
  rw [if_pos rfl, if_pos (by rw [List.length_map]; exact hj), List.getElem?_map, hg]
  rfl
 ·rw [if_neg hk, List.getElem?_map, List.getElem?_map]
  cases hG : G[k]? with
  | none => rfl
  | some q =>
   have hne : q.2 ≠ p.2 := by have := h.num k q hG; omega
   show some (outC V q) = some (outC V' q)
   unfold outC
   rw [ho q.2 hne]
end
/-- What a look-up has told. -/
theorem InD.place {D : DataW Unit} {G : List (Int × Nat)} (h : InD D G) (hpos : ∀ p ∈ G, 1 ≤ p.2) {f c : Int} (hat : D.atKey (.int .i64 f) (.lit (.int .i64 0)) = .lit (.int .i64 c)) : (c = 0 ∧ ∀ p ∈ G, p.1 ≠ f) ∨ ∃ g : Nat, c = (g : Int) ∧ 1 ≤ g ∧ (f, g) ∈ G := by
 by_cases hex : ∃ p ∈ G, p.1 = f
 ·obtain ⟨p, hp, rfl⟩ := hex
  have := h.at_ p hp (.lit (.int .i64 0))
  rw [hat] at this
  injection this with this
  injection this with _ this
  exact .inr ⟨p.2, this, hpos p hp, hp⟩
 ·have := h.out f fun p hp e => hex ⟨p, hp, e⟩
  rw [atKey_of_not_has this] at hat
  injection hat with hat
  injection hat with _ hat
  exact .inl ⟨hat.symm, fun p hp e => hex ⟨p, hp, e⟩⟩
/-- The first row is sorted, the others as they came. -/
def SortX (G : List (Int × Nat)) (Y X : Nat → Nat → List S56) : Prop := ∀ p ∈ G, (StEq ltC (Y p.2 0) (X p.2 0) ∧ RisesS ltC (X p.2 0)) ∧ X p.2 1 = Y p.2 1 ∧ X p.2 2 = Y p.2 2
theorem StEq.snoc {α : Type} [Inhabited α] {lt : α → α → Bool} {a b : List α} (h : StEq lt a b) (x : α) : StEq lt (a ++ [x]) (b ++ [x]) := StEq.app h (StEq.refl _)
theorem SortX.spec {w0 W : World} {G : List (Int × Nat)} {V : Nat → Nat → Value} {Y X : Nat → Nat → List S56} {own : Nat → Option (Nat × Nat)} {E : List (S71 × S56)} (h : SortX G Y X) (hi : InO w0 G V X own W) (hr : RowsE E G Y) (hf : Feat E G) {ys : List S35} (hst : StEq ltL (G.map fun p => ⟨p.1, X p.2 0, X p.2 1, X p.2 2⟩) ys) (hrs : RisesS ltL ys) : OfSpec E ys := by
 refine spec_of ?_ hst hrs (fun f => ?_) (fun y hy => ?_)
 ·rw [List.pairwise_map]
  exact List.pairwise_map.1 hi.keys
 ·constructor
  ·rintro ⟨y, hy, rfl⟩
   obtain ⟨p, hp, rfl⟩ := List.mem_map.1 hy
   exact hf p hp
  ·rintro ⟨e, he, rfl⟩
   obtain ⟨p, hp, h1⟩ := hr.come e he
   exact ⟨_, List.mem_map_of_mem hp, h1⟩
 ·obtain ⟨p, hp, rfl⟩ := List.mem_map.1 hy
  obtain ⟨⟨h1, h2⟩, h3, h4⟩ := h p hp
  have r0 := hr.rows p hp 0 (by decide)
  have r1 := hr.rows p hp 1 (by decide)
  have r2 := hr.rows p hp 2 (by decide)
  exact ⟨by rw [← r0]; exact h1, h2, h3.trans r1, h4.trans r2⟩
end Go.Proofs.Ytfmjgjfbnilpoaa.FAll
