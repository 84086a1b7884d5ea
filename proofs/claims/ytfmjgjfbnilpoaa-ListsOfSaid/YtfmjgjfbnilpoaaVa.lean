/-
 thicketref14.put: one cut more in a rising row.
-/
import Derived.Test.YtfmjgjfbnilpoaaZq
import Derived.Test.YtfmjgjfbnilpoaaCg
import Derived.Test.YtfmjgjfbnilpoaaEv
namespace Go.Proofs.Ytfmjgjfbnilpoaa.FAll
open Go.RowKit Go.Sort YtfmjgjfbnilpoaaW.PrintWords YtfmjgjfbnilpoaaW.PrintLast YtfmjgjfbnilpoaaW.PrintMore
attribute [local go_sem] fstore_walk flt_walk
set_option linter.unusedVariables false
set_option linter.unusedSimpArgs false
theorem infoCut5 : (Try.prog.info? 56).map (fun i => (i.zero, i.size, i.bytes)) = some (some (.agg #[.float .f64 0, .slice none 0 0, .int .i64 0, .int .i64 0, .int .i64 0]), 5, 56) := by kernel_rfl
/-- A struct is stored into the row, in a plain region. -/
theorem SrC.storeP_ {α : Type} [Inhabited α] {E : RcC α} {kb : Nat} {ko : Obj} {w0 w : World} {g : Nat} {tl : List Value} {d : Array α} {ops : Array Oper} {rest : List Oper} {Q : Exit → Act → World → Prop} {oi : Oper} {a : Act} {p v : Operand} (h : SrC E kb ko w0 g tl d w) (i : Nat) (hi : i < d.size) (x : α)
  (hgd : oi.guard = none) (hN : oi.dst = none) (hop : oi.op = .store 56 p v) (hp : a.eval p = .pointer (some ⟨g, i * 5, none⟩)) (hv : a.eval v = .agg #[E.e0 x, E.e1 x, E.e2 x, E.e3 x, E.e4 x])
  (hK : ∀ w1, SrC E kb ko w0 g tl (d.setIfInBounds i x) w1 → w.grownBy w1 (some g) → wpList Try.prog ops Q rest a w1) : wpList Try.prog ops Q (oi :: rest) a w := by
 refine wpList_store_mid hgd 56 p v hop g (i * 5) #[E.e0 x, E.e1 x, E.e2 x, E.e3 x, E.e4 x] hp hv (h.there i hi) infoRcC (all_oneCell_toArray (E.one x)) ?_
 rw [hN]
 exact hK _ (h.set i hi x) (grown_cells w g (i * 5) _)
theorem box2_event {P : Program} {ops : Array Oper} {rest : List Oper} {o1 o2 : Oper} {a : Act} {Q : Exit → Act → World → Prop} {W : World} (hgd1 : o1.guard = none) {t : TypeId} {zs cs : Array Value} {p v : Operand}
  (hrun : (execOp a.eval o1).run P W = .ok (.value (.pointer (some ⟨W.heap.size, 0, none⟩))) (W.alloc (.cells zs t (0, 0)))) (hgd2 : o2.guard = none) (hN2 : o2.dst = none) (hop : o2.op = .store t p v)
  (hp : (a.put o1.dst (.pointer (some ⟨W.heap.size, 0, none⟩))).eval p = .pointer (some ⟨W.heap.size, 0, none⟩)) (hv : (a.put o1.dst (.pointer (some ⟨W.heap.size, 0, none⟩))).eval v = .agg cs) (hz : zs.size = cs.size) (hi : (P.info? t).map (·.size) = some cs.size) (h1 : cs.all (·.oneCell') = true)
  (h : ∀ g, g = W.heap.size → ∀ w1, w1.heap[g]? = some (.cells cs t (0, 0)) → Below W.heap.size W w1 → wpList P ops Q rest (a.put o1.dst (.pointer (some ⟨g, 0, none⟩))) w1) : wpList P ops Q (o1 :: o2 :: rest) a W := by
 refine Kd.event_run hgd1 hrun ?_
 have hrow := blk_new W (.cells zs t (0, 0))
 refine wpList_store_mid hgd2 t p v hop W.heap.size 0 cs hp hv (fun j hj => ⟨?_, blk_frozen hrow _⟩) hi h1 ?_
 ·rw [show (⟨W.heap.size, 0 + j, none⟩ : Addr) = ⟨W.heap.size, j, none⟩ by rw [Nat.zero_add], blk_cell hrow, Array.getElem?_eq_getElem (by omega)]; rfl
 ·rw [hN2]
  obtain ⟨cur, h2, h3, h4⟩ := setCells_row cs.toList 0 (W.alloc (.cells zs t (0, 0))) _ hrow (by rw [Array.length_toList]; omega)
  refine h _ rfl _ ?_ (Below.grown (below_alloc (Below.refl _ _) _) (grown_cells _ W.heap.size 0 cs.toList) (by rw [World.size_alloc]; omega) (fun q hq => by injection hq with hq; omega))
  rw [h2, show cur = cs by rw [← Array.toList_inj, h4]; simp [hz]]
/-- A row of cuts as tokens in its block. -/
theorem R_toks {w : World} {base : Nat} {ok : Nat → Prop} {v : Value} {xs : List S56} (hR : Kd.R k56 56 w base ok v xs) (hb : ∀ x ∈ xs, x.f0 < 2 ^ 64) (m : Nat) (hm : xs.length = m) (hne : 0 < m) (kb : Nat) (ko : Obj) (hk : w.heap[kb]? = some ko) (hkb : some kb ≠ v.ownBlock) :
  ∃ (g cap : Nat) (tl : List Value) (ts : List TkC), v = .slice (some ⟨g, 0, none⟩) m cap ∧ ts.map TkC.s = xs ∧ ts.length = m ∧ SrC rcC kb ko w g tl ts.toArray w ∧ ∀ (w' : World) (d' : Array TkC), SrC rcC kb ko w g tl d' w' → d'.size = m → (∀ t ∈ d'.toList, t ∈ ts) → Kd.R k56 56 w' base ok v (d'.toList.map TkC.s) := by
 obtain ⟨hok, inner, ⟨hlen, hown⟩, hreps⟩ := hR
 rcases hown with ⟨rfl, h0⟩ | ⟨g, cap, cur, rfl, hbase, hbk, h1, h2, h3, h4⟩
 ·omega
 ·obtain ⟨ts, e1, e2, h5⟩ := toksC xs inner hreps hb
  have hne2 : kb ≠ g := by
   rintro rfl
   exact hkb rfl
  have ecur : cur = (ts.flatMap rcC.cs ++ cur.toList.drop (xs.length * 5)).toArray := by
   rw [← Array.toList_inj, e2, ← h4]
   exact (List.take_append_drop _ _).symm
  have hz : ts.length = xs.length := by rw [← e1, List.length_map]
  refine ⟨g, cap, cur.toList.drop (xs.length * 5), ts, by rw [hm], e1, by rw [hz, hm], .start (by rw [hbk]; exact congrArg (fun c => some (Obj.cells c 56 (0, 0))) ecur) hk hne2, ?_⟩
  intro w' d' hr hz2 hmem
  have hz3 : d'.toList.length = xs.length := by rw [Array.length_toList, hz2, hm]
  have hcl : cur.toList.length = cap * 5 := by rw [Array.length_toList]; exact h3
  refine ⟨hok, d'.toList.flatMap rcC.cs, ⟨?_, .inr ⟨g, cap, ((d'.toList.flatMap rcC.cs) ++ cur.toList.drop (xs.length * 5)).toArray, ?_, hbase, hr.row, ?_, h2, ?_, ?_⟩⟩, ?_⟩
  ·rw [flat_len rcC.len, List.length_map]; rfl
  ·rw [List.length_map, hz3]
  ·rw [List.length_map, hz3]; exact h1
  ·rw [List.size_toArray, List.length_append, flat_len rcC.len, hz3, List.length_drop, hcl]
   have : xs.length * 5 ≤ cap * 5 := Nat.mul_le_mul_right _ h1
   show _ = cap * 5
   omega
  ·show List.take _ _ = _
   exact List.take_left' (by rw [flat_len rcC.len, List.length_map]; rfl)
  ·refine repsC d'.toList fun t h => ?_
   have h7 := h5 t (hmem t h)
   exact Kd.R_grown h7 hr.grown (fun k hk => hk.2)
theorem swp_mem {α : Type} [Inhabited α] {d : Array α} {i j : Nat} (hi : i < d.size) (hj : j < d.size) : ∀ x ∈ (swp d i j).toList, x ∈ d.toList := by
 intro x hx
 unfold swp at hx
 rw [Array.toList_setIfInBounds, Array.toList_setIfInBounds] at hx
 rcases List.mem_or_eq_of_mem_set hx with hx | rfl
 ·rcases List.mem_or_eq_of_mem_set hx with hx | rfl
  ·exact hx
  ·rw [arr_get d j hj]; exact Array.getElem_mem_toList hj
 ·rw [arr_get d i hi]; exact Array.getElem_mem_toList hi
abbrev ltT (a b : TkC) : Bool := ltC a.s b.s
theorem swoT : SWO ltT := ⟨fun x => swoC.irrefl _, fun x y z => swoC.trans _ _ _, fun x y z => swoC.ntrans _ _ _⟩
/-- The document's comparison of thresholds that are numbers. -/
theorem flt_ltT {x y : TkC} (hx : isNaN x.s.f0 = false) (hy : isNaN y.s.f0 = false) : flt x.s.f0 y.s.f0 = ltT x y := by
 rw [flt_k x.bound y.bound, hx, hy]
 rfl
/-- What holds in the loop. -/
structure PutI (xs : List S56) (ts : List TkC) (m j : Nat) (dj : Array TkC) : Prop where
 le : j ≤ xs.length
 size : dj.size = m
 ins : insInner ltT 0 j dj = insInner ltT 0 xs.length ts.toArray
 mem : ∀ t ∈ dj.toList, t ∈ ts
theorem PutI.go {xs : List S56} {ts : List TkC} {m j : Nat} {dj : Array TkC} (h : PutI xs ts m j dj) (hm : m = xs.length + 1) (hj : 0 < j) (hl : ltT dj[j]! dj[j - 1]! = true) : PutI xs ts m (j - 1) (swp dj j (j - 1)) :=
 ⟨by have := h.le; omega, by unfold swp; rw [Array.size_setIfInBounds, Array.size_setIfInBounds]; exact h.size, by rw [← insInnerF_go 0 j dj hj hj hl]; exact h.ins, fun t ht => h.mem t (swp_mem (by have := h.size; have := h.le; omega) (by have := h.size; have := h.le; omega) t ht)⟩
theorem some_ne_of {w w1 : World} {base : Nat} {ok : Nat → Prop} {v v4 : Value} {xs : List S56} (hR : Kd.R k56 56 w base ok v xs) {gx : Nat} {o : Obj} (hx : w1.heap[gx]? = some o) (hg : gx = w.heap.size) (hat : v4.ownBlock = v.ownBlock ∨ ∃ b, v4.ownBlock = some b ∧ w1.heap.size ≤ b) : some gx ≠ v4.ownBlock := fun e => by
 rcases hat with h | ⟨b, h, hb⟩
 ·rw [h] at e
  have := Kd.R_lt hR gx e.symm
  omega
 ·rw [h] at e
  injection e with e
  have := blk_lt hx
  omega
theorem some_ne_new {w : World} {base : Nat} {ok : Nat → Prop} {v : Value} {xs : List S56} (hR : Kd.R k56 56 w base ok v xs) {gx : Nat} (hg : gx = w.heap.size) : some gx ≠ v.ownBlock := fun e => by
 have := Kd.R_lt hR gx e.symm
 omega
theorem cut_at {w : World} {g o : Nat} {x : TkC} (h : AtC rcC w g o x) : w.cell? ⟨g, o, none⟩ = some (.float .f64 x.s.f0) ∧ w.cell? ⟨g, o + 1, none⟩ = some x.v1 ∧ w.cell? ⟨g, o + 2, none⟩ = some (.int .i64 x.s.f2) ∧ w.cell? ⟨g, o + 3, none⟩ = some (.int .i64 x.s.f3) ∧ w.cell? ⟨g, o + 4, none⟩ = some (.int .i64 x.s.f4) := h
theorem own_later {a b : Option Nat} {n m : Nat} (h : a = b ∨ ∃ k, a = some k ∧ m ≤ k) (hn : n ≤ m) : a = b ∨ ∃ k, a = some k ∧ n ≤ k := by
 rcases h with h | ⟨k, h1, h2⟩
 ·exact .inl h
 ·exact .inr ⟨k, h1, Nat.le_trans hn h2⟩
theorem put_nan {xs : List S56} {c : S56} (hn : ∀ x ∈ xs ++ [c], isNaN x.f0 = false) {ts : List TkC} (e1 : ts.map TkC.s = xs ++ [c]) {m j : Nat} {dj : Array TkC} (h : PutI xs ts m j dj) {t : TkC} (ht : t ∈ dj.toList) : isNaN t.s.f0 = false :=
 hn _ (by rw [← e1]; exact List.mem_map_of_mem (h.mem t ht))
theorem put_end {w w4 w5 : World} {base : Nat} {ok : Nat → Prop} {v : Value} {xs : List S56} {c : S56} {ts : List TkC} {m j g cap gx : Nat} {ko : Obj} {tl : List Value} {dj : Array TkC} (e1 : ts.map TkC.s = xs ++ [c]) (em : ts.length = m) (hm : (xs ++ [c]).length = m) (mm : m = xs.length + 1) (hr : RisesS ltC xs) (hb : ∀ x ∈ xs ++ [c], x.f0 < 2 ^ 64) (hR : Kd.R k56 56 w base ok v xs)
  (hback : ∀ (w' : World) (d' : Array TkC), SrC rcC gx ko w4 g tl d' w' → d'.size = m → (∀ t ∈ d'.toList, t ∈ ts) → Kd.R k56 56 w' base ok (.slice (some ⟨g, 0, none⟩) m cap) (d'.toList.map TkC.s)) (hg : w.grownBy w4 v.ownBlock) (ha : (Value.slice (some ⟨g, 0, none⟩) m cap).ownBlock = v.ownBlock ∨ ∃ b, (Value.slice (some ⟨g, 0, none⟩) m cap).ownBlock = some b ∧ w.heap.size ≤ b)
  (hp : PutI xs ts m j dj) (hj : ¬ 0 < j ∨ ltT dj[j]! dj[j - 1]! = false) (hs : SrC rcC gx ko w4 g tl dj w5) :
  ∃ (v' : Value) (ys : List S56), Ending.returned (.slice (some ⟨g, 0, none⟩) m cap) = .returned v' ∧ StEq ltC (xs ++ [c]) ys ∧ RisesS ltC ys ∧ Kd.R k56 56 w5 base ok v' ys ∧ w.grownBy w5 v.ownBlock ∧ (v'.ownBlock = v.ownBlock ∨ ∃ b, v'.ownBlock = some b ∧ w.heap.size ≤ b) := by
 have hst : dj = insInner ltT 0 xs.length ts.toArray := by
  rw [← hp.ins]
  exact (insInnerF_stop 0 j dj (hj.imp_left (fun h => by omega))).symm
 have hS := insInner_stab (lt := ltT) swoT 0 xs.length xs.length ts.toArray (Nat.le_refl _) (by rw [List.size_toArray, em]; omega)
 rw [← hst] at hS
 have hst2 : StEq ltT ts dj.toList := by simpa using hS.st
 have hz : ∀ p, p < xs.length → ts.toArray[p]!.s = xs[p]! := by
  intro p hp
  have h2 : p < ts.length := by omega
  have h1 : (ts.map TkC.s)[p]? = (xs ++ [c])[p]? := by rw [e1]
  rw [List.getElem?_map, List.getElem?_append_left hp, List.getElem?_eq_getElem h2, List.getElem?_eq_getElem hp] at h1
  rw [arr_get _ p (by rw [List.size_toArray]; exact h2), List.getElem_toArray]
  rw [getElem!_pos xs p hp]
  exact Option.some.inj h1
 have hsort : SortedIn ltT 0 dj.size dj := by
  have h := (insInner_spec (lt := ltT) swoT swp_permIn permIn_refl permIn_trans 0 m xs.length (by omega) xs.length ts.toArray (Nat.zero_le _) (Nat.le_refl _) (by rw [List.size_toArray, em]; exact Nat.le_refl _) ⟨fun p q hap hpq hqi _ hq => ?_, fun q h1 h2 => by omega⟩).2
  ·rw [← hst, ← mm] at h
   rw [hp.size]
   exact h
  ·show ltC _ _ = false
   rw [hz p (by omega), hz q (by omega), getElem!_pos xs p (by omega), getElem!_pos xs q (by omega)]
   exact List.pairwise_iff_getElem.1 hr p q (by omega) (by omega) hpq
 refine ⟨_, dj.toList.map TkC.s, rfl, by rw [← e1]; exact hst2.map swoC TkC.s, List.pairwise_map.2 (sorted_list (lt := ltT) hsort), hback w5 dj hs hp.size hp.mem, ?_, ha⟩
 refine ⟨hs.grown.os.trans hg.os, hs.grown.tape.trans hg.tape, hs.grown.output.trans hg.output, Nat.le_trans hg.size hs.grown.size, fun k hk hne => ?_⟩
 refine (hs.grown.block k (Nat.lt_of_lt_of_le hk hg.size) (fun e => ?_)).trans (hg.block k hk hne)
 rcases ha with h | ⟨b, h, hb⟩
 ·exact hne (by rw [← h]; exact e)
 ·have e2 : some b = some k := h.symm.trans e.symm
  injection e2 with e2
  omega
set_option maxHeartbeats 8000000 in
set_option maxRecDepth 100000 in
theorem put_calls (w : World) (base : Nat) (ok okp : Nat → Prop) (v : Value) (xs : List S56) (c : S56) (Ac : Option Addr) (cc : Nat) (hR : Aside0 (Kd.R k56 56 w base ok v xs)) (hI : Aside0 ((Kd.int .i64).R 3 w base okp (.slice Ac c.f1.length cc) c.f1)) (hokp : Aside0 (∀ k, okp k → ok k ∧ some k ≠ v.ownBlock)) (hfr : Aside0 (∀ k, w.heap.size ≤ k → ok k)) (hbase : Aside0 (base ≤ w.heap.size)) (hbits : Aside0 (∀ x ∈ xs ++ [c], x.f0 < 2 ^ 64)) (hnan : Aside0 (∀ x ∈ xs ++ [c], isNaN x.f0 = false)) (hrs : Aside0 (RisesS ltC xs)) (hl : Aside0 ((xs.length + 1) * 56 ≤ 140737488355328)) :
  Calls Try.prog 32 #[v, .agg #[.float .f64 c.f0, .slice Ac c.f1.length cc, .int .i64 c.f2, .int .i64 c.f3, .int .i64 c.f4]] w fun e w' => ∃ (v' : Value) (ys : List S56), e = .returned v' ∧ StEq ltC (xs ++ [c]) ys ∧ RisesS ltC ys ∧ Kd.R k56 56 w' base ok v' ys ∧ w.grownBy w' v.ownBlock ∧ (v'.ownBlock = v.ownBlock ∨ ∃ b, v'.ownBlock = some b ∧ w.heap.size ≤ b) := by
 have HB := aS_ (Below.refl w.heap.size w)
 go_enter Try.func32, Try.ntmps32
 go_wp2_with (first | ((with_reducible refine gate_dst (N := 3) rfl ?_); refine box_event ?hg (N := 3) ?hd (cs := #[.float .f64 c.f0, .slice Ac c.f1.length cc, .int .i64 c.f2, .int .i64 c.f3, .int .i64 c.f4]) (t := 56) ?hr ?_; (case hd => rfl); (case hg => rfl); (case hr => first | (go_simp; done) | (go_simp; rfl)); intro gx hg w1 hbox hb; have hx_ := blk5 hbox; have BX := aS_ hbox; have GX := aS_ hg; clear HB; have HB := aS_ hb; clear hb hbox hg) | ((with_reducible refine gate_builtin (b := .append) (xs := #[.tmp 7, .tmp 9]) rfl ?_); at_builtin; refine Kd.R_append k56 (w0 := w1) base rfl (.tmp 7) (.tmp 9) 33 56 (.agg #[.float .f64 0, .slice none 0 0, .int .i64 0, .int .i64 0, .int .i64 0]) 56 rfl Try.underlying33 infoCut5 rfl (by decide) (by omega) v xs c [.float .f64 c.f0, .slice Ac c.f1.length cc, .int .i64 c.f2, .int .i64 c.f3, .int .i64 c.f4] ok okp rfl rfl (k56_mkM w1 base okp c (Kd.R_below hI.out HB.out)) hokp.out (fun k hk => hfr.out k (Nat.le_trans HB.out.size hk)) (Kd.R_below hR.out HB.out) (Below.refl _ _) (Nat.le_trans hbase.out HB.out.size) hl.out ?_; intro v4 w4 R4 hb4 hg4 hat4; obtain ⟨m, hm⟩ : ∃ m, (xs ++ [c]).length = m := ⟨_, rfl⟩; have hgx := some_ne_of hR.out BX.out GX.out hat4; obtain ⟨g, cap, tl, ts, rfl, e1, em, hS, hback⟩ := R_toks R4 hbits.out m hm (by rw [← hm]; simp) gx _ (blk_grown BX.out hg4 (some_ne_new hR.out GX.out)) hgx; have E1 := aS_ e1; have EM := aS_ em; have SR := aS_ hS; have BK := aS_ hback; have MM := aS_ (show m = xs.length + 1 by rw [← hm]; simp); have HM := aS_ hm; have HG := aS_ ((grown_of_below HB.out v.ownBlock).trans hg4); have HA := aS_ (own_later hat4 HB.out.size); obtain ⟨nz, hnz⟩ : ∃ nz : Int, nz = ((xs.length : Nat) : Int) := ⟨_, rfl⟩; have NZ := aS_ hnz; have wm : wrap64 ((m : Int) - 1) = nz := (by have := MM.out; have := hl.out; rw [hnz]; unfold wrap64; omega); clear hx_ R4 hb4 hg4 hat4 hgx e1 em hS hback hm hnz))
 simp only [wm]
 go_loopg [5, 6] (xs.length + 2) (fun kq v5 v6 w' => ∃ (y : Int) (j : Nat) (dj : Array TkC), v5 = .int .i64 y ∧ Aside0 (y = j) ∧ Aside0 (j < kq) ∧ Aside0 (PutI xs ts m j dj) ∧ Aside0 (SrC rcC gx (.cells #[.float .f64 c.f0, .slice Ac c.f1.length cc, .int .i64 c.f2, .int .i64 c.f3, .int .i64 c.f4] 56 (0, 0)) w4 g tl dj w'))
 case atStart => exact ⟨nz, xs.length, ts.toArray, rfl, NZ, ⟨by omega⟩, ⟨⟨Nat.le_refl _, by rw [List.size_toArray]; exact EM.out, rfl, fun t ht => by simpa using ht⟩⟩, SR⟩
 case round =>
  clear SR
  obtain ⟨y, j, dj, rfl, hy, hk, PI, SR⟩ := hrel
  cases gk with
  | zero => exact absurd hk.out (by omega)
  | succ k1 =>
   by_cases hja : 0 < j
   ·have c2 : decide (y > 0) = true := decide_eq_true (by have := hy.out; omega)
    obtain ⟨y1, hy1⟩ : ∃ y1 : Int, y1 = y - 1 := ⟨_, rfl⟩
    have J := aS_ (⟨by have := hy.out; omega, by have := hy.out; have := PI.out.le; have := MM.out; omega, by have := hy.out; omega, by have := hy.out; have := PI.out.le; have := MM.out; omega⟩ : y1.toNat = j - 1 ∧ j < m ∧ y.toNat = j ∧ j - 1 < m)
    have wy : wrap64 (y - 1) = y1 := by have := hy.out; have := J.out; have := hl.out; have := MM.out; unfold wrap64; omega
    have p1 := eq_true (show 0 ≤ y by have := hy.out; omega)
    have p2 := eq_true (show y < (m : Int) by have := hy.out; have := J.out; omega)
    have p3 := eq_true (show 0 ≤ y1 by have := hy.out; omega)
    have p4 := eq_true (show y1 < (m : Int) by have := hy.out; have := J.out; omega)
    obtain ⟨x1, hx1⟩ : ∃ x1, x1 = dj[j]! := ⟨_, rfl⟩
    obtain ⟨x0, hx0⟩ : ∃ x0, x0 = dj[j - 1]! := ⟨_, rfl⟩
    have X := aS_ (⟨hx1, hx0⟩ : x1 = dj[j]! ∧ x0 = dj[j - 1]!)
    obtain ⟨d0, d1, d2, d3, d4⟩ := cut_at (show AtC rcC wr g (y.toNat * 5) x1 by rw [J.out.2.2.1, hx1]; exact SR.out.at_ j (by rw [PI.out.size]; exact J.out.2.1))
    obtain ⟨f0, f1, f2, f3, f4⟩ := cut_at (show AtC rcC wr g (y1.toNat * 5) x0 by rw [J.out.1, hx0]; exact SR.out.at_ (j - 1) (by rw [PI.out.size]; exact J.out.2.2.2))
    have FL := aS_ (show flt x1.s.f0 x0.s.f0 = ltT x1 x0 from flt_ltT (put_nan hnan.out E1.out PI.out (by rw [hx1, arr_get _ j (by rw [PI.out.size]; exact J.out.2.1)]; exact Array.getElem_mem_toList _)) (put_nan hnan.out E1.out PI.out (by rw [hx0, arr_get _ (j - 1) (by rw [PI.out.size]; exact J.out.2.2.2)]; exact Array.getElem_mem_toList _)))
    obtain ⟨tb, htb⟩ : ∃ tb, (FloatKind.f64.format.order x1.s.f0 x0.s.f0 == some Ordering.lt) = tb := ⟨_, rfl⟩
    have TB := aS_ (FL.out.symm.trans htb)
    have JA := aS_ hja
    have Y1 := aS_ hy1
    clear hx1 hx0 hy1 hja d1 d2 d3 d4 f1 f2 f3 f4
    go_wp2
    go_quiet (fail)
    obtain ⟨w5, hw5⟩ : ∃ w5, w5 = wr.drewN nq := ⟨_, rfl⟩
    have SR5 := aS_ (show SrC rcC gx (.cells #[.float .f64 c.f0, .slice Ac c.f1.length cc, .int .i64 c.f2, .int .i64 c.f3, .int .i64 c.f4] 56 (0, 0)) w4 g tl dj w5 by rw [hw5]; exact SR.out.drewN nq)
    rw [← hw5]
    try rw [htb]
    clear SR d0 f0 hw5 htb
    cases tb
    ·go_wp2
     go_ret
     exact put_end E1.out EM.out HM.out MM.out hrs.out hbits.out hR.out BK.out HG.out HA.out PI.out (.inr (by rw [← X.out.1, ← X.out.2]; exact TB.out)) SR5.out
    ·obtain ⟨d0, d1, d2, d3, d4⟩ := cut_at (show AtC rcC w5 g (y.toNat * 5) x1 by rw [J.out.2.2.1, X.out.1]; exact SR5.out.at_ j (by rw [PI.out.size]; exact J.out.2.1))
     obtain ⟨f0, f1, f2, f3, f4⟩ := cut_at (show AtC rcC w5 g (y1.toNat * 5) x0 by rw [J.out.1, X.out.2]; exact SR5.out.at_ (j - 1) (by rw [PI.out.size]; exact J.out.2.2.2))
     go_wp2_with (first | ((with_reducible refine gate_dst (N := 6) rfl ?_); refine box2_event rfl (t := 56) (zs := #[.float .f64 0, .slice none 0 0, .int .i64 0, .int .i64 0, .int .i64 0]) (cs := #[.float .f64 x1.s.f0, x1.v1, .int .i64 x1.s.f2, .int .i64 x1.s.f3, .int .i64 x1.s.f4]) (p := .tmp 6) (v := .tmp 35) ?hr rfl rfl rfl rfl rfl rfl infoRcC (all_oneCell_toArray (rcC.one x1)) ?_; (case hr => first | (go_simp; done) | (go_simp; rfl)); intro gy hg w6 hbox hb; have S_ := aS_ (SR5.out.below hb); have NG := aS_ (show gy ≠ g by rw [hg]; exact Nat.ne_of_gt SR5.out.lt); obtain ⟨f0, f1, f2, f3, f4⟩ := cut_at (show AtC rcC w6 g (y1.toNat * 5) x0 by rw [J.out.1, X.out.2]; exact S_.out.at_ (j - 1) (by rw [PI.out.size]; exact J.out.2.2.2)); have BY := aS_ hbox; clear SR5 hbox hb hg) | ((with_reducible refine gate_store (t := 56) (p := 43) rfl ?_); refine S_.out.storeP_ y.toNat (by rw [J.out.2.2.1, PI.out.size]; exact J.out.2.1) x0 rfl rfl rfl rfl rfl ?_; intro w7 hs7 hg7; have BY7 := aS_ (blk_grown BY.out hg7 (fun e => NG.out (Option.some.inj e))); have hy_ := blk5 (w := w7) BY7.out; have S7 := aS_ hs7; clear S_ BY f0 f1 f2 f3 f4 hs7 hg7) | ((with_reducible refine gate_store (t := 56) (p := 48) rfl ?_); refine S7.out.storeP_ y1.toNat (by rw [Array.size_setIfInBounds, J.out.1, PI.out.size]; exact J.out.2.2.2) x1 rfl rfl rfl rfl rfl ?_; intro w8 hs8 hg8; rw [J.out.2.2.1, J.out.1, X.out.1, X.out.2] at hs8; have SW := aS_ (show SrC rcC gx (.cells #[.float .f64 c.f0, .slice Ac c.f1.length cc, .int .i64 c.f2, .int .i64 c.f3, .int .i64 c.f4] 56 (0, 0)) w4 g tl (swp dj j (j - 1)) w8 from hs8); clear S7 hs8 hg8 BY7 hy_))
     go_roundg k1
     case measure => have := hk.out; omega
     case rel => exact ⟨_, j - 1, _, rfl, ⟨by have := Y1.out; have := hy.out; have := JA.out; first | omega | (rw [wy]; omega)⟩, ⟨by have := hk.out; have := JA.out; omega⟩, ⟨PI.out.go MM.out JA.out (by rw [← X.out.1, ← X.out.2]; exact TB.out)⟩, SW⟩
   ·have c2 : decide (y > 0) = false := decide_eq_false (by have := hy.out; omega)
    have J0 := aS_ hja
    clear hja
    go_wp2
    go_quiet (fail)
    go_wp2
    go_ret
    exact put_end E1.out EM.out HM.out MM.out hrs.out hbits.out hR.out BK.out HG.out HA.out PI.out (.inl J0.out) (SR.out.drewN _)
end Go.Proofs.Ytfmjgjfbnilpoaa.FAll
