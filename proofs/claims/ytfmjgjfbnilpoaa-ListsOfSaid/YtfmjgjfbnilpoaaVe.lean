/-
 A row of lists as tokens in its block; a list is stored into it in a plain region; insertion keeps what it sorts.
-/
import Derived.Test.YtfmjgjfbnilpoaaVc
namespace Go.Proofs.Ytfmjgjfbnilpoaa.FAll
open Go.RowKit Go.Sort YtfmjgjfbnilpoaaW.PrintWords YtfmjgjfbnilpoaaW.PrintLast YtfmjgjfbnilpoaaW.PrintMore
set_option linter.unusedVariables false
set_option linter.unusedSimpArgs false
theorem SrL.storeP_ {α : Type} [Inhabited α] {E : RcL α} {kb : Nat} {ko : Obj} {w0 w : World} {g : Nat} {tl : List Value} {d : Array α} {ops : Array Oper} {rest : List Oper} {Q : Exit → Act → World → Prop} {oi : Oper} {a : Act} {p v : Operand} (h : SrL E kb ko w0 g tl d w) (i : Nat) (hi : i < d.size) (x : α)
  (hgd : oi.guard = none) (hN : oi.dst = none) (hop : oi.op = .store 35 p v) (hp : a.eval p = .pointer (some ⟨g, i * 4, none⟩)) (hv : a.eval v = .agg #[E.e0 x, E.e1 x, E.e2 x, E.e3 x])
  (hK : ∀ w1, SrL E kb ko w0 g tl (d.setIfInBounds i x) w1 → w.grownBy w1 (some g) → wpList Try.prog ops Q rest a w1) : wpList Try.prog ops Q (oi :: rest) a w := by
 refine wpList_store_mid hgd 35 p v hop g (i * 4) #[E.e0 x, E.e1 x, E.e2 x, E.e3 x] hp hv (h.there i hi) infoRcL (all_oneCell_toArray (E.one x)) ?_
 rw [hN]
 exact hK _ (h.set i hi x) (grown_cells w g (i * 4) _)
/-- A row of lists as tokens in its block. -/
theorem R_toksL {w : World} {base : Nat} {ok : Nat → Prop} {v : Value} {xs : List S35} (hR : Kd.R k35 35 w base ok v xs) (m : Nat) (hm : xs.length = m) (hne : 0 < m) (kb : Nat) (ko : Obj) (hk : w.heap[kb]? = some ko) (hkb : some kb ≠ v.ownBlock) :
  ∃ (g cap : Nat) (tl : List Value) (ts : List TkL), v = .slice (some ⟨g, 0, none⟩) m cap ∧ ts.map TkL.s = xs ∧ ts.length = m ∧ SrL rcL kb ko w g tl ts.toArray w ∧ ∀ (w' : World) (d' : Array TkL), SrL rcL kb ko w g tl d' w' → d'.size = m → (∀ t ∈ d'.toList, t ∈ ts) → Kd.R k35 35 w' base ok v (d'.toList.map TkL.s) := by
 obtain ⟨hok, inner, ⟨hlen, hown⟩, hreps⟩ := hR
 rcases hown with ⟨rfl, h0⟩ | ⟨g, cap, cur, rfl, hbase, hbk, h1, h2, h3, h4⟩
 ·omega
 ·obtain ⟨ts, e1, e2, h5⟩ := toksL xs inner hreps (fun _ _ => trivial)
  have hne2 : kb ≠ g := by
   rintro rfl
   exact hkb rfl
  have ecur : cur = (ts.flatMap rcL.cs ++ cur.toList.drop (xs.length * 4)).toArray := by
   rw [← Array.toList_inj, e2, ← h4]
   exact (List.take_append_drop _ _).symm
  have hz : ts.length = xs.length := by rw [← e1, List.length_map]
  refine ⟨g, cap, cur.toList.drop (xs.length * 4), ts, by rw [hm], e1, by rw [hz, hm], .start (by rw [hbk]; exact congrArg (fun c => some (Obj.cells c 35 (0, 0))) ecur) hk hne2, ?_⟩
  intro w' d' hr hz2 hmem
  have hz3 : d'.toList.length = xs.length := by rw [Array.length_toList, hz2, hm]
  have hcl : cur.toList.length = cap * 4 := by rw [Array.length_toList]; exact h3
  refine ⟨hok, d'.toList.flatMap rcL.cs, ⟨?_, .inr ⟨g, cap, ((d'.toList.flatMap rcL.cs) ++ cur.toList.drop (xs.length * 4)).toArray, ?_, hbase, hr.row, ?_, h2, ?_, ?_⟩⟩, ?_⟩
  ·rw [flat_len rcL.len, List.length_map]; rfl
  ·rw [List.length_map, hz3]
  ·rw [List.length_map, hz3]; exact h1
  ·rw [List.size_toArray, List.length_append, flat_len rcL.len, hz3, List.length_drop, hcl]
   have : xs.length * 4 ≤ cap * 4 := Nat.mul_le_mul_right _ h1
   show _ = cap * 4
   omega
  ·show List.take _ _ = _
   exact List.take_left' (by rw [flat_len rcL.len, List.length_map]; rfl)
  ·refine repsL d'.toList fun t h => ?_
   obtain ⟨a1, a2, a3⟩ := h5 t (hmem t h)
   exact ⟨Kd.R_grown a1 hr.grown (fun k hk => hk.2), Kd.R_grown a2 hr.grown (fun k hk => hk.2), Kd.R_grown a3 hr.grown (fun k hk => hk.2)⟩
theorem list_at {w : World} {g o : Nat} {x : TkL} (h : AtL rcL w g o x) : w.cell? ⟨g, o, none⟩ = some (.int .i64 x.s.f0) ∧ w.cell? ⟨g, o + 1, none⟩ = some x.v1 ∧ w.cell? ⟨g, o + 2, none⟩ = some x.v2 ∧ w.cell? ⟨g, o + 3, none⟩ = some x.v3 := h
abbrev ltU (a b : TkL) : Bool := ltL a.s b.s
theorem swoU : SWO ltU := ⟨fun x => swoL.irrefl _, fun x y z => swoL.trans _ _ _, fun x y z => swoL.ntrans _ _ _⟩
/-- The outer loop's. -/
structure SortI (ts : List TkL) (m i : Nat) (d : Array TkL) : Prop where
 size : d.size = m
 st : StEq ltU ts d.toList
 sorted : SortedIn ltU 0 i d
 mem : ∀ t ∈ d.toList, t ∈ ts
/-- The inner one's. -/
structure SwapI (ts : List TkL) (m i j : Nat) (dc dj : Array TkL) : Prop where
 le : j ≤ i
 size : dj.size = m
 ins : insInner ltU 0 j dj = insInner ltU 0 i dc
 mem : ∀ t ∈ dj.toList, t ∈ ts
theorem SortI.start (ts : List TkL) : SortI ts ts.length 0 ts.toArray := ⟨List.size_toArray .., StEq.refl _, fun p q _ _ h => absurd h (Nat.not_lt_zero _), fun t ht => by simpa using ht⟩
theorem SortI.in_ {ts : List TkL} {m i : Nat} {d : Array TkL} (h : SortI ts m i d) : SwapI ts m i i d d := ⟨Nat.le_refl _, h.size, rfl, h.mem⟩
theorem SwapI.go {ts : List TkL} {m i j : Nat} {dc dj : Array TkL} (h : SwapI ts m i j dc dj) (hi : i < m) (hj : 0 < j) (hl : ltU dj[j]! dj[j - 1]! = true) : SwapI ts m i (j - 1) dc (swp dj j (j - 1)) :=
 ⟨by have := h.le; omega, by unfold swp; rw [Array.size_setIfInBounds, Array.size_setIfInBounds]; exact h.size, by rw [← insInnerF_go 0 j dj hj hj hl]; exact h.ins, fun t ht => h.mem t (swp_mem (by have := h.size; have := h.le; omega) (by have := h.size; have := h.le; omega) t ht)⟩
theorem SwapI.done {ts : List TkL} {m i j : Nat} {dc dj : Array TkL} (h : SwapI ts m i j dc dj) (hd : SortI ts m i dc) (hi : i < m) (hj : ¬ 0 < j ∨ ltU dj[j]! dj[j - 1]! = false) : SortI ts m (i + 1) dj := by
 have hst : dj = insInner ltU 0 i dc := by
  rw [← h.ins]
  exact (insInnerF_stop 0 j dj (hj.imp_left (fun h => by omega))).symm
 have hS := insInner_stab (lt := ltU) swoU 0 i i dc (Nat.le_refl _) (by rw [hd.size]; exact hi)
 have hP := (insInner_spec (lt := ltU) swoU swp_permIn permIn_refl permIn_trans 0 m i (by omega) i dc (Nat.zero_le _) (Nat.le_refl _) (by rw [hd.size]; exact Nat.le_refl _) ⟨fun p q hap hpq hqi _ hq => hd.sorted p q hap hpq (by omega), fun q h1 h2 => by omega⟩).2
 rw [← hst] at hS hP
 exact ⟨h.size, hd.st.trans hS.st, hP, h.mem⟩
theorem SortI.end_ {ts : List TkL} {m : Nat} {d : Array TkL} (h : SortI ts m m d) : StEq ltL (ts.map TkL.s) (d.toList.map TkL.s) ∧ RisesS ltL (d.toList.map TkL.s) :=
 ⟨h.st.map swoL TkL.s, List.pairwise_map.2 (sorted_list (lt := ltU) (by rw [h.size]; exact h.sorted))⟩
end Go.Proofs.Ytfmjgjfbnilpoaa.FAll
