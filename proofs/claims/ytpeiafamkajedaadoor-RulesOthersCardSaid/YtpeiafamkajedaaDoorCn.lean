/-
  trees.Canon: the same tree, its nodes in the order in which 'all' yields them, of its own in all its depth.
-/
import Derived.Test.YtpeiafamkajedaaDoorCy
import Derived.Test.YtpeiafamkajedaaDoorTh
import Derived.Test.YtpeiafamkajedaaDoorTi
namespace Go.Proofs.YtpeiafamkajedaaDoor.FAll
open Go.RowKit Go.Shelf Go.Proofs.YtpeiafamkajedaaDoorW.PrintWords Go.Proofs.YtpeiafamkajedaaDoorW.PrintLast Go.Proofs.YtpeiafamkajedaaDoorW.PrintMore BTree
attribute [local go_sem] fstore_walk Oper.semAt_some
set_option linter.unusedVariables false
set_option linter.unusedSimpArgs false
/-- Where each node comes to stand, as far as they have come. -/
def plcL (N : Nat) (pre : List Nat) : List Int := (List.range N).map fun i => if i ∈ pre then (pre.idxOf i : Int) else 0
theorem plcL_length (N : Nat) (pre : List Nat) : (plcL N pre).length = N := by unfold plcL; rw [List.length_map, List.length_range]
theorem plcL_get (N : Nat) (pre : List Nat) (i : Nat) (h : i < N) : (plcL N pre)[i]? = some (if i ∈ pre then (pre.idxOf i : Int) else 0) := by
  unfold plcL
  rw [List.getElem?_map, List.getElem?_range h]
  rfl
theorem plcL_set (N : Nat) (pre : List Nat) (i : Nat) (h : i < N) (hi : i ∉ pre) : (plcL N pre).set i (pre.length : Int) = plcL N (pre ++ [i]) := by
  apply List.ext_getElem?
  intro j
  rw [List.getElem?_set]
  by_cases hj : j < N
  · rw [plcL_get _ _ _ hj, plcL_get _ _ _ hj]
    by_cases e : i = j
    · subst e
      rw [if_pos rfl, if_pos (by rw [plcL_length]; exact h), if_pos (by simp), List.idxOf_append, if_neg hi]
      simp
    · rw [if_neg e]
      by_cases hm : j ∈ pre
      · rw [if_pos hm, if_pos (List.mem_append_left _ hm), List.idxOf_append, if_pos hm]
      · rw [if_neg hm, if_neg (by simp; exact ⟨hm, fun h_ => e h_.symm⟩)]
  · rw [List.getElem?_eq_none (by rw [plcL_length]; omega), List.getElem?_eq_none (by rw [plcL_length]; omega)]
    split
    · rename_i e
      rw [if_neg (by rw [plcL_length]; omega)]
    · rfl
theorem plcL_nil (N : Nat) : plcL N [] = List.replicate N 0 := by
  apply List.ext_getElem?
  intro j
  by_cases hj : j < N
  · rw [plcL_get _ _ _ hj, List.getElem?_replicate, if_pos hj, if_neg (by simp)]
  · rw [List.getElem?_eq_none (by rw [plcL_length]; omega), List.getElem?_eq_none (by simp; omega)]
theorem range_le (P : List Nat) (n : Nat) (h : ∀ j, j < n → j ∈ P) : n ≤ P.length := by
  induction n generalizing P with
  | zero => exact Nat.zero_le _
  | succ n ih =>
    have hm := h n (Nat.lt_succ_self n)
    have h2 := ih (P.erase n) (fun j hj => (List.mem_erase_of_ne (by omega)).2 (h j (by omega)))
    rw [List.length_erase_of_mem hm] at h2
    have := List.length_pos_of_mem hm
    omega
theorem plc_cell {w' : World} {pl N : Nat} {P : List Nat} (hcv : ∀ j, j < N → j ∈ P) (h : w'.heap[pl]? = some (.cells ((plcL N P).map (Value.int .i64)).toArray 3 (0, 0))) (j : Int) (h0 : 0 ≤ j) (h1 : j < (N : Int)) : w'.cell? ⟨pl, j.toNat, none⟩ = some (.int .i64 ((P.idxOf j.toNat : Nat) : Int)) :=
  (blk_cell h j.toNat).trans (by rw [List.getElem?_toArray, List.getElem?_map, plcL_get _ _ _ (by omega), if_pos (hcv _ (by omega))]; rfl)
theorem store_row {α : Type} {d : Kd α} {P : Program} {e base g n cap : Nat} {W : World} {ok : Nat → Prop} {xs : List α} (HO : d.R e W base ok (.slice (some ⟨g, 0, none⟩) n cap) xs) (q : Nat) (hq : q < n) (t : TypeId) (u : Value) (seg : List Value) (hu : u.cells.toList = seg) (ht : (P.info? t).map (·.size) = some seg.length) (h1 : ∀ q ∈ seg, q.oneCell' = true) (hl : seg.length = d.sz) :
    (Instr.storeAt t (.pointer (some ⟨g, q * d.sz, none⟩)) u).run P W = .ok () (W.setCells g (q * d.sz) seg) := by
  obtain ⟨_, inner, hown, hr⟩ := HO
  rcases hown.2 with ⟨hv, _⟩ | ⟨g', cap', cur, hv, hb, hh, hnc, hcm, hcs, _⟩
  · cases hv
  injection hv with ha hn hc
  injection ha with ha
  injection ha with hg'
  subst hg'; subst hc
  refine run_store_run t u seg hh hu ht ?_ h1
  have h2 : q * d.sz + d.sz ≤ n * d.sz := by rw [← Nat.succ_mul]; exact Nat.mul_le_mul_right _ hq
  have h3 : n * d.sz ≤ cap * d.sz := Nat.mul_le_mul_right _ (by omega)
  omega
theorem store_skip {P : Program} {a : Act} {oi : Oper} {W W1 : World} {t : TypeId} {p x : Operand} {v u : Value} (ho : oi.op = .store t p x) (hp : a.eval p = v) (hx : a.eval x = u) (h : (Instr.storeAt t v u).run P W = .ok () W1) : (execOp a.eval oi).run P W = .ok .skip W1 := by
  unfold execOp
  simp only [ho, hp, hx, Sem.run_bind, Sem.run_pure, Result.andThen_ok, h]
/-- No panic: at each other exit Q. -/
def NoPan (Q : Exit → Act → World → Prop) : Exit → Act → World → Prop
  | .panic _, _, _ => False
  | .normal, a, w => Q .normal a w
  | .ret, a, w => Q .ret a w
  | .exit i, a, w => Q (.exit i) a w
  | .goto i, a, w => Q (.goto i) a w
  | .outgrown, a, w => Q .outgrown a w
theorem noPan {Q : Exit → Act → World → Prop} {e : Exit} {a : Act} {w : World} (h : NoPan Q e a w) : Q e a w := by
  cases e with
  | panic c => exact h.elim
  | normal => exact h
  | ret => exact h
  | exit i => exact h
  | goto i => exact h
  | outgrown => exact h
theorem two_alloc (W : World) (o1 o2 : Obj) : ((W.alloc o1).alloc o2).drew.heap[W.heap.size]? = some o1 ∧ ((W.alloc o1).alloc o2).drew.heap[W.heap.size + 1]? = some o2 ∧ Below W.heap.size W ((W.alloc o1).alloc o2).drew := by
  refine ⟨(Below.heap_alloc (W.alloc o1) o2 _ (by rw [World.size_alloc]; exact Nat.lt_succ_self _)).trans (heap_alloc_new W o1), ?_, below_drew (below_alloc (below_alloc (Below.refl _ W) _) _)⟩
  have h := heap_alloc_new (W.alloc o1) o2
  rw [World.size_alloc] at h
  exact h
theorem made_reps {α : Type} {R : α → List Value → Prop} {z : Value} {size : Nat} {z0 : α} (hz : z.cells.size = size) (h0 : R z0 z.cells.toList) (m : Nat) : Reps R size (List.replicate m z0) (madeCells z.cells (m * size)).toList := by
  refine ⟨by simp [size_madeCells], fun j p hj => ?_⟩
  rw [List.getElem?_replicate] at hj
  split at hj
  · rename_i hlt
    obtain rfl := Option.some.inj hj
    have e : (((madeCells z.cells (m * size)).toList.drop (j * size)).take size) = z.cells.toList := by
      apply List.ext_getElem
      · have : j * size + size ≤ m * size := by rw [← Nat.succ_mul]; exact Nat.mul_le_mul_right _ hlt
        simp [size_madeCells, hz]
        omega
      · intro i h1 h2
        have hi : i < size := by rw [List.length_take] at h1; omega
        rw [List.getElem_take, List.getElem_drop]
        simp [madeCells, hz, Nat.mul_add_mod', Nat.mod_eq_of_lt hi]
        rw [Array.getElem!_eq_getD, Array.getD_eq_getD_getElem?, Array.getElem?_eq_getElem (by omega)]
        rfl
    rw [e]
    exact h0
  · cases hj
theorem Kd.R_madeD {α : Type} (d : Kd α) {w : World} {g e base n : Nat} {z : Value} {z0 : α} (hb : base ≤ g) (hh : w.heap[g]? = some (.cells (madeCells z.cells (n * d.sz)) e (0, 0))) (hz : z.cells.size = d.sz) (hs : 0 < d.sz) (h0 : d.M w base (fun _ => False) z0 z.cells.toList) (hm : n ≤ maxLen) : Kd.R d e w base (fun _ => True) (.slice (some ⟨g, 0, none⟩) n n) (List.replicate n z0) :=
  ⟨fun _ _ => trivial, (madeCells z.cells (n * d.sz)).toList, ⟨by simp [size_madeCells], .inr ⟨g, n, _, by rw [List.length_replicate], hb, hh, by rw [List.length_replicate]; exact Nat.le_refl _, hm, size_madeCells _ _, by rw [List.take_of_length_le (by simp [size_madeCells])]⟩⟩, made_reps hz (d.M_mono (fun _ h => h.elim) h0) n⟩
def zeroN : S65 := ⟨0, 0, 0, 0, [], 0, 0, 0⟩
/-- A node, its children numbered anew. -/
def cnN (P : List Nat) (x : S65) : S65 := if innerB x = true then ⟨x.f0, x.f1, x.f2, x.f3, x.f4, x.f5, (P.idxOf x.f6.toNat : Int), (P.idxOf x.f7.toNat : Int)⟩ else x
/-- The nodes of which those below m have been laid. -/
def outL (ns : List S65) (P : List Nat) (m : Nat) : List S65 := P.map fun i : Nat => if i < m then cnN P (rd_T65 ns (i : Int)) else zeroN
/-- The tree's nodes in the new order. -/
def canonL (ns : List S65) (P : List Nat) : List S65 := P.map fun i : Nat => cnN P (rd_T65 ns (i : Int))
theorem outL_length (ns : List S65) (P : List Nat) (m : Nat) : (outL ns P m).length = P.length := List.length_map ..
theorem outL_zero (ns : List S65) (P : List Nat) (n : Nat) (h : P.length = n) : outL ns P 0 = List.replicate n zeroN := by
  unfold outL
  rw [← h]
  clear h
  induction P with
  | nil => rfl
  | cons a P ih => rw [List.map_cons, List.length_cons, List.replicate_succ, if_neg (Nat.not_lt_zero _)]; exact congrArg _ ih
theorem outL_all (ns : List S65) (P : List Nat) (n : Nat) (h : ∀ i ∈ P, i < n) : outL ns P n = canonL ns P := by
  unfold outL canonL
  exact List.map_congr_left fun i hi => if_pos (h i hi)
theorem outL_set (ns : List S65) (P : List Nat) (m : Nat) (hm : m ∈ P) (hd : P.Nodup) : (outL ns P m).set (P.idxOf m) (cnN P (rd_T65 ns (m : Int))) = outL ns P (m + 1) := by
  apply List.ext_getElem?
  intro j
  have hlt := List.idxOf_lt_length_of_mem hm
  rw [List.getElem?_set]
  unfold outL
  by_cases e : P.idxOf m = j
  · subst e
    rw [if_pos rfl, if_pos (by rw [List.length_map]; exact hlt), List.getElem?_map, List.getElem?_eq_getElem hlt, List.getElem_idxOf hlt]
    show _ = some (if m < m + 1 then _ else _)
    rw [if_pos (Nat.lt_succ_self m)]
  · rw [if_neg e, List.getElem?_map, List.getElem?_map]
    by_cases hj : j < P.length
    · rw [List.getElem?_eq_getElem hj]
      have hne : P[j] ≠ m := fun h => e (by
        have h2 := hd.idxOf_getElem j hj
        rw [h] at h2
        exact h2)
      show some (if P[j] < m then cnN P (rd_T65 ns (P[j] : Int)) else zeroN) = some (if P[j] < m + 1 then cnN P (rd_T65 ns (P[j] : Int)) else zeroN)
      by_cases h1 : P[j] < m
      · rw [if_pos h1, if_pos (by omega)]
      · rw [if_neg h1, if_neg (by omega)]
    · rw [List.getElem?_eq_none (by omega)]
      rfl
theorem made_one (v : Value) (n : Nat) : madeCells #[v] n = (List.replicate n v).toArray := by
  apply Array.ext
  · simp [madeCells]
  · intro i h1 h2
    simp [madeCells, Nat.mod_one]
/-- Between two rounds: where the nodes come to stand, and how many have come. -/
def InCn (w : World) (Bt Br Bp Bl Bc : Nat) (TC : Array Value) (N : Nat) (pre : List (Nat × Nat)) (W : World) : Prop :=
  W.heap[Bl]? = some (.cells ((plcL N (pre.map Prod.fst)).map (Value.int .i64)).toArray 3 (0, 0)) ∧ W.heap[Bc]? = some (.cells #[.int .i64 (pre.length : Int)] 3 (0, 0)) ∧ W.heap[Bp]? = some (.cells #[.slice (some ⟨Bl, 0, none⟩) N N] 56 (0, 0)) ∧ W.heap[Bt]? = some (.cells TC 37 (0, 0)) ∧ W.heap[Br]? = some (.cells #[.int .i64 0, .slice none 0 0] 37 (0, 0)) ∧ Below w.heap.size w W
section
variable {w : World} {Bt Br Bp Bl Bc : Nat} {TC : Array Value} {N : Nat}
theorem InCn.keep {pre : List (Nat × Nat)} {W W' : World} (h : InCn w Bt Br Bp Bl Bc TC N pre W) (hb : Below w.heap.size W W') (hk : ∀ (k : Nat) (cells : Array Value) (t : TypeId), t ≠ 102 → W.heap[k]? = some (.cells cells t (0, 0)) → W'.heap[k]? = some (.cells cells t (0, 0))) : InCn w Bt Br Bp Bl Bc TC N pre W' := by
  obtain ⟨h1, h2, h3, h4, h5, h6⟩ := h
  exact ⟨hk _ _ _ (by decide) h1, hk _ _ _ (by decide) h2, hk _ _ _ (by decide) h3, hk _ _ _ (by decide) h4, hk _ _ _ (by decide) h5, h6.trans hb⟩
theorem InCn.from {B : Nat} (hB : w.heap.size ≤ B) : OwnFrom B (InCn w Bt Br Bp Bl Bc TC N) := by
  intro s W W' row h hg hr
  refine h.keep ((Below.refl _ W).grown hg (by have := h.2.2.2.2.2.size; exact this) (fun k e => Nat.le_trans hB (hr k e).1)) (fun k cells t _ hc => (hg.block k (Array.getElem?_eq_some_iff.1 hc).1 (fun e => ?_)).trans hc)
  obtain ⟨_, o, ho, hn⟩ := hr k e.symm
  rw [hc] at ho
  cases ho
  cases hn
theorem InCn.step {B : Nat} (hB : w.heap.size ≤ B) : ∀ s A A', InCn w Bt Br Bp Bl Bc TC N s A → StepT 102 B A A' → InCn w Bt Br Bp Bl Bc TC N s A' := fun s A A' h hs =>
  h.keep (hs.below.mono hB) (fun k cells t ht hc => (hs.keep k (Array.getElem?_eq_some_iff.1 hc).1 (fun c e => by
    rw [hc] at e
    injection e with e
    injection e with _ e
    exact ht e)).trans hc)
end
theorem keepsFrom_set {B : Nat} {W : World} {b i t : Nat} {cs : Array Value} {v : Value} (hb : W.heap[b]? = some (.cells cs t (0, 0))) : KeepsFrom B W (W.setCell ⟨b, i, none⟩ v) :=
  ⟨by rw [World.size_setCell]; exact Nat.le_refl _, fun k o _ hk ho => (Below.heap_setCell W ⟨b, i, none⟩ v k (fun e => by
    have e' : k = b := e
    subst e'
    rw [hb] at hk
    cases hk
    cases ho)).trans hk⟩
set_option maxHeartbeats 16000000 in
set_option maxRecDepth 100000 in
theorem trees_Canon.calls (w : World) (t0 : Int) (A1 : Option Addr) (c1 : Nat) (ns : List S65) (T : BT) (k : Nat) (hns : Aside0 (Kd.C k65 w A1 ns.length ns)) (hc1 : Aside0 (ns.length ≤ c1)) (KS : Aside0 (trees_Shape.f k t0 ns = some (0, 0))) (hT : Aside0 (TreeIs ns T)) (TF : Aside0 (TreeFine ns)) (HCV : Aside0 (∀ j, j < ns.length → j ∈ T.pre)) (hlen : Aside0 (ns.length ≤ 1000000000000)) (hcats : Aside0 (∀ x ∈ ns, x.f4.length * 8 ≤ 140737488355328)) :
    Calls Tryd.prog 16 #[.agg #[.int .i64 t0, .slice A1 ns.length c1]] w fun e w' => ∃ v, e = .returned (.tuple #[.agg #[.int .i64 t0, v], .int .i64 0]) ∧ Kd.R k65 65 w' w.heap.size (fun _ => True) v (canonL ns T.pre) ∧ Below w.heap.size w w' := by
  refine (callsIn_wide (n := 10)).1 ?_
  refine callsIn_of_wp_marks Tryd.func16 rfl trivial ?_ rfl
  refine wpIn_wide.2 ?_
  refine wp_mono (Q := NoPan (bodyPostM Fence.wide 10 Tryd.prog Tryd.f16 _)) ?_ (fun e a w h => noPan h)
  simp only [Tryd.ntmps16, List.size_toArray, List.length_cons, List.length_nil, Nat.reduceAdd, Nat.reduceSub, Array.replicate_succ, Array.replicate_zero, List.push_toArray, List.append_toArray, List.nil_append, List.cons_append]
  have HB := Aside0.mk (Below.refl w.heap.size w)
  have LN := hlen.out
  have w2_ : (0 : Int) ≤ (ns.length : Int) := by omega
  have w3_ : (ns.length : Int) * 8 ≤ 281474976710656 := by omega
  have w4_ : (ns.length : Int).toNat = ns.length := by omega
  obtain ⟨i0, hi0, hzz⟩ := Option.map_eq_some_iff.1 infoIntC
  simp only [Prod.mk.injEq] at hzz
  obtain ⟨hz0, hz1, hz2⟩ := hzz
  have mk : ∀ W, (Instr.makeSlice 56 (.int .i64 (ns.length : Int)) (.int .i64 (ns.length : Int))).run Tryd.prog W = .ok (.slice (some ⟨W.heap.size, 0, none⟩) ns.length ns.length) (W.alloc (.cells (madeCells #[.int .i64 0] ns.length) 3)) := by
    intro W
    have h := run_make (P := Tryd.prog) W 56 3 i0 (.int .i64 0) Tryd.underlying56 hi0 hz0 .i64 .i64 (ns.length : Int) (ns.length : Int) (by omega) (by omega) (by rw [hz2]; omega) (by omega)
    rw [w4_, hz1, Nat.mul_one] at h
    exact h
  clear hz0 hz1 hz2 hi0
  obtain ⟨i1, hi1, hzz1⟩ := Option.map_eq_some_iff.1 infoNodeC
  simp only [Prod.mk.injEq] at hzz1
  obtain ⟨hy0, hy1, hy2⟩ := hzz1
  have w5_ : (ns.length : Int) * 80 ≤ 281474976710656 := by omega
  have mkn : ∀ W, (Instr.makeSlice 35 (.int .i64 (ns.length : Int)) (.int .i64 (ns.length : Int))).run Tryd.prog W = .ok (.slice (some ⟨W.heap.size, 0, none⟩) ns.length ns.length) (W.alloc (.cells (madeCells #[.int .u8 0, .int .i64 0, .int .i64 0, .float .f64 0, .slice none 0 0, .int .u8 0, .int .i64 0, .int .i64 0] (ns.length * 8)) 65)) := by
    intro W
    have h := run_make (P := Tryd.prog) W 35 65 i1 (.agg #[.int .u8 0, .int .i64 0, .int .i64 0, .float .f64 0, .slice none 0 0, .int .u8 0, .int .i64 0, .int .i64 0]) Tryd.underlying35 hi1 hy0 .i64 .i64 (ns.length : Int) (ns.length : Int) (by omega) (by omega) (by rw [hy2]; omega) (by omega)
    rw [w4_, hy1] at h
    exact h
  clear hy0 hy1 hy2 hi1
  have PLN : T.pre.length = ns.length := by
    have h1 := hT.out.few
    have h2 := HCV.out
    have h3 := range_le T.pre ns.length h2
    omega
  go_wp2_with (first | ((with_reducible refine gate_dst (N := 1) rfl ?_); refine box_event ?hg (N := 1) ?hd (cs := #[.int .i64 t0, .slice A1 ns.length c1]) (t := 37) ?hr ?_; (case hd => rfl); (case hg => rfl); (case hr => first | (go_simp; done) | (go_simp; rfl)); intro ge hg w1 hbox hb; have GE := Aside0.mk (show w.heap.size ≤ ge by rw [hg]; exact Nat.le_refl _); have n0_ := Aside0.mk (below_step (kB0 HB) hb); have Bge := Aside0.mk hbox; clear HB; have HB := n0_; clear n0_ hb hbox hg) | ((with_reducible refine gate_dst (N := 2) rfl ?_); refine box_event ?hg (N := 2) ?hd (cs := #[.int .i64 0, .slice none 0 0]) (t := 37) ?hr ?_; (case hd => rfl); (case hg => rfl); (case hr => first | (go_simp; done) | (go_simp; rfl)); intro gr hg w2 hbox hb; have GR := Aside0.mk (show w.heap.size ≤ gr by rw [hg]; exact below_size (kB0 HB)); have NE := Aside0.mk (show ge ≠ gr by rw [hg]; exact Nat.ne_of_lt (blk_lt Bge.out)); have mBge_ := Aside0.mk (blk_below Bge.out hb); have mHB_ := Aside0.mk (below_step (kB0 HB) hb); clear Bge HB; have Bge := mBge_; have HB := mHB_; clear mBge_ mHB_; have Bgr := Aside0.mk hbox; clear hb hbox hg; have he := blk2 (w := w2) Bge.out) | (go_at_call 22; refine (trees_Shape.calls k t0 A1 c1 ns 0 0 _ (Kd.C_below hns.out (kB0 HB)) hc1.out KS.out).mono ?_; rintro e w3 ⟨rfl, hb⟩; have mBge_ := Aside0.mk (blk_below Bge.out hb); have mBgr_ := Aside0.mk (blk_below Bgr.out hb); have mHB_ := Aside0.mk (below_step (kB0 HB) hb); clear Bge Bgr HB; have Bge := mBge_; have Bgr := mBgr_; have HB := mHB_; clear mBge_ mBgr_ mHB_; clear hb he; have he := blk2 (w := w3) Bge.out) | ((with_reducible refine gate_dst (N := 6) rfl ?_); refine box_event ?hg (N := 6) ?hd (cs := #[.slice none 0 0]) (t := 56) ?hr ?_; (case hd => rfl); (case hg => rfl); (case hr => first | (go_simp; done) | (go_simp; rfl)); intro gp hg w5 hbox hb; have SZ5 := Aside0.mk (show gp = w3.heap.size + 1 by rw [hg, World.size_alloc]); have SZ3 := Aside0.mk (show w.heap.size ≤ w3.heap.size ∧ ge < w3.heap.size ∧ gr < w3.heap.size from ⟨below_size HB.out, blk_lt Bge.out, blk_lt Bgr.out⟩); have Bpl := Aside0.mk (blk_below (blk_new w3 (.cells (madeCells #[.int .i64 0] ns.length) 3)) hb); have mBge_ := Aside0.mk (blk_below (blk_alloc Bge.out _) hb); have mBgr_ := Aside0.mk (blk_below (blk_alloc Bgr.out _) hb); have mHB_ := Aside0.mk (below_step (below_alloc HB.out _) hb); clear Bge Bgr HB; have Bge := mBge_; have Bgr := mBgr_; have HB := mHB_; clear mBge_ mBgr_ mHB_; have Bp := Aside0.mk hbox; clear hbox hg hb he; have hp := ((blk_cell Bp.out 0).trans rfl : w5.cell? ⟨gp, 0, none⟩ = some (.slice none 0 0)); have hpf := (blk_frozen Bp.out 0 : w5.frozen? ⟨gp, 0, none⟩ = false)) | ((with_reducible refine gate_dst (N := 7) rfl ?_); refine box_event ?hg (N := 7) ?hd (cs := #[.int .i64 0]) (t := 3) ?hr ?_; (case hd => rfl); (case hg => rfl); (case hr => first | (go_simp; done) | (go_simp; rfl)); intro gc hg w6 hbox hb; have mBge_ := Aside0.mk (blk_far (p := ⟨gp, 0, none⟩) Bge.out (by have h1_ := SZ5.out; have h2_ := SZ3.out; exact fun e_ => by simp only [] at e_; omega) (.slice (some ⟨w3.heap.size, 0, none⟩) ns.length ns.length)); have mBgr_ := Aside0.mk (blk_far (p := ⟨gp, 0, none⟩) Bgr.out (by have h1_ := SZ5.out; have h2_ := SZ3.out; exact fun e_ => by simp only [] at e_; omega) (.slice (some ⟨w3.heap.size, 0, none⟩) ns.length ns.length)); have mBpl_ := Aside0.mk (blk_far (p := ⟨gp, 0, none⟩) Bpl.out (by have h1_ := SZ5.out; exact fun e_ => by simp only [] at e_; omega) (.slice (some ⟨w3.heap.size, 0, none⟩) ns.length ns.length)); have mBp_ := Aside0.mk (show (w5.setCell ⟨gp, 0, none⟩ (.slice (some ⟨w3.heap.size, 0, none⟩) ns.length ns.length)).heap[gp]? = some (.cells #[(.slice (some ⟨w3.heap.size, 0, none⟩) ns.length ns.length)] 56 (0, 0)) from blk_put Bp.out 0 (.slice (some ⟨w3.heap.size, 0, none⟩) ns.length ns.length) rfl); have mHB_ := Aside0.mk (below_set (g := gp) (j := 0) (v := (.slice (some ⟨w3.heap.size, 0, none⟩) ns.length ns.length)) HB.out (by have h1_ := SZ5.out; have h2_ := SZ3.out; omega)); clear Bge Bgr Bpl Bp HB; have Bge := mBge_; have Bgr := mBgr_; have Bpl := mBpl_; have Bp := mBp_; have HB := mHB_; clear mBge_ mBgr_ mBpl_ mBp_ mHB_; have SZ6 := Aside0.mk (show gc = w5.heap.size ∧ w3.heap.size + 2 ≤ w5.heap.size from ⟨by rw [hg, World.size_setCell], by have h1_ := blk_lt Bp.out; have h2_ := SZ5.out; rw [World.size_setCell] at h1_; omega⟩); have mBge_ := Aside0.mk (blk_below Bge.out hb); have mBgr_ := Aside0.mk (blk_below Bgr.out hb); have mBpl_ := Aside0.mk (blk_below Bpl.out hb); have mBp_ := Aside0.mk (blk_below Bp.out hb); have mHB_ := Aside0.mk (below_step HB.out hb); clear Bge Bgr Bpl Bp HB; have Bge := mBge_; have Bgr := mBgr_; have Bpl := mBpl_; have Bp := mBp_; have HB := mHB_; clear mBge_ mBgr_ mBpl_ mBp_ mHB_; have Bc := Aside0.mk hbox; clear hbox hg hb hp hpf; have hc_ := ((blk_cell Bc.out 0).trans rfl : w6.cell? ⟨gc, 0, none⟩ = some (.int .i64 0)); have hcf := (blk_frozen Bc.out 0 : w6.frozen? ⟨gc, 0, none⟩ = false); have he8 := blk2 (blk_far (p := ⟨gc, 0, none⟩) Bge.out (fun e_ => by have h1_ := SZ6.out; have h2_ := SZ3.out; have h3_ := SZ5.out; simp only [] at e_; omega) (.int .i64 0))) | (go_at_call 40; refine (all_any _ t0 A1 c1 ns.length).mono ?_; rintro e w7 ⟨rfl, rfl⟩))
  obtain ⟨W0, hW0⟩ : ∃ W0, W0 = (w6.setCell ⟨gc, 0, none⟩ (.int .i64 0)).alloc (.cells #[.int .i64 t0, .slice A1 ns.length c1] 37) := ⟨_, rfl⟩
  have hsz0 : (w6.setCell ⟨gc, 0, none⟩ (.int .i64 0)).heap.size = w6.heap.size := World.size_setCell ..
  have GC0 := Aside0.mk (show w.heap.size ≤ gc by have h1_ := SZ6.out; have h2_ := SZ3.out; omega)
  have hb0 : Below w.heap.size w W0 := by rw [hW0]; exact below_alloc (below_set (g := gc) (j := 0) (v := .int .i64 0) HB.out GC0.out) _
  have hz0 : W0.heap.size = w6.heap.size + 1 := by rw [hW0, World.size_alloc, hsz0]
  have hN0 : W0.heap[w6.heap.size]? = some (.cells #[.int .i64 t0, .slice A1 ns.length c1] 37 (0, 0)) := by
    have h := blk_new (w6.setCell ⟨gc, 0, none⟩ (.int .i64 0)) (.cells #[.int .i64 t0, .slice A1 ns.length c1] 37)
    rw [hsz0] at h
    rw [hW0]
    exact h
  have hI0 : InCn w ge gr gp w3.heap.size gc #[.int .i64 t0, .slice A1 ns.length c1] ns.length [] W0 := by
    rw [hW0]
    refine ⟨?_, blk_alloc (show _ = some (.cells #[.int .i64 0] 3 (0, 0)) from blk_put Bc.out 0 (.int .i64 0) rfl) _, blk_alloc (blk_far (p := ⟨gc, 0, none⟩) Bp.out (fun e_ => by have h1_ := SZ6.out; have h2_ := SZ3.out; have h3_ := SZ5.out; simp only [] at e_; omega) _) _, blk_alloc (blk_far (p := ⟨gc, 0, none⟩) Bge.out (fun e_ => by have h1_ := SZ6.out; have h2_ := SZ3.out; have h3_ := SZ5.out; simp only [] at e_; omega) _) _, blk_alloc (blk_far (p := ⟨gc, 0, none⟩) Bgr.out (fun e_ => by have h1_ := SZ6.out; have h2_ := SZ3.out; have h3_ := SZ5.out; simp only [] at e_; omega) _) _, hW0 ▸ hb0⟩
    refine blk_alloc (blk_far (p := ⟨gc, 0, none⟩) ?_ (fun e_ => by have h1_ := SZ6.out; have h2_ := SZ3.out; have h3_ := SZ5.out; simp only [] at e_; omega) _) _
    rw [show (plcL ns.length (([] : List (Nat × Nat)).map Prod.fst)) = List.replicate ns.length 0 from plcL_nil _, List.map_replicate, ← made_one]
    exact Bpl.out
  rw [← hW0]
  have hbW := Aside0.mk hb0
  have hNW := Aside0.mk hN0
  have hzW := Aside0.mk hz0
  have GB := Aside0.mk (show w.heap.size ≤ w3.heap.size from SZ3.out.1)
  have ND := Aside0.mk (show w3.heap.size ≠ gc by have h1_ := SZ6.out; omega)
  clear hW0 hz0 hb0 hN0 hsz0 HB Bge Bgr Bpl Bp Bc hc_ hcf he8
  refine (wpIn_wide (n := 10)).1 ?_
  refine range_T (n0 := w.heap.size) (st := 102) (sp := sp2) rfl (by decide) (gf := 53) (lb := #[.pointer (some ⟨w6.heap.size, 0, none⟩)]) rfl trivial (enters_of Tryd.func53 (by kernel_rfl) rfl)
    (all1_seq w W0 (10 - 1) (by decide) t0 A1 c1 ns T w6.heap.size hns hT hlen hbW hNW) (Below.refl _ _) hbW.out.size (fun _ => rfl)
    (InCn w ge gr gp w3.heap.size gc #[.int .i64 t0, .slice A1 ns.length c1] ns.length) (InCn.from hbW.out.size) (InCn.step hbW.out.size) hI0 ?a1 ?assign ?body ?done
  case assign =>
    intro l x W K hK
    gi_wp2
    exact hK
  case body =>
    rintro l pre ⟨i, d⟩ rest W hx ⟨hl, hc, hp, hge, hgr, hB⟩ hsz
    have hxm := congrArg (List.map Prod.fst) hx
    rw [T.preD_fst 0, List.map_append, List.map_cons] at hxm
    have hit : i < ns.length := hT.out.is.lt T i (by rw [← hxm]; simp)
    have hfresh : i ∉ pre.map Prod.fst := fun hm => by
      have hnd := hT.out.is.nodup (fine_of TF.out) T [0] (by rw [hT.out.root]; exact .root)
      rw [← hxm] at hnd
      exact (List.nodup_append.1 hnd).2.2 i hm i (by simp) rfl
    have hlen2 : pre.length < ns.length := by
      have h1 := congrArg List.length hxm
      have h2 := hT.out.few
      simp only [List.length_append, List.length_map, List.length_cons] at h1
      omega
    have hp1 := ((blk_cell hp 0).trans rfl : W.cell? ⟨gp, 0, none⟩ = some (.slice (some ⟨w3.heap.size, 0, none⟩) ns.length ns.length))
    have hc1_ := ((blk_cell hc 0).trans rfl : W.cell? ⟨gc, 0, none⟩ = some (.int .i64 (pre.length : Int)))
    have hl1 : W.cell? ⟨w3.heap.size, i, none⟩ = some (.int .i64 (if i ∈ pre.map Prod.fst then ((pre.map Prod.fst).idxOf i : Int) else 0)) := (blk_cell hl i).trans (by rw [List.getElem?_toArray, List.getElem?_map, plcL_get _ _ _ hit]; rfl)
    have hl2 := blk_frozen hl i
    have hr1 : (0 : Int) ≤ (i : Int) := Int.natCast_nonneg _
    have hr2 : (i : Int) < (ns.length : Int) := by omega
    have hl3 := blk_set hl i (.int .i64 (pre.length : Int))
    have hc2 := blk_far (p := ⟨w3.heap.size, i, none⟩) hc (Ne.symm ND.out) (.int .i64 (pre.length : Int))
    have hc3 := ((blk_cell hc2 0).trans rfl : (W.setCell ⟨w3.heap.size, i, none⟩ (.int .i64 (pre.length : Int))).cell? ⟨gc, 0, none⟩ = some (.int .i64 (pre.length : Int)))
    have hc4 := blk_frozen hc2 0
    have HL := Aside0.mk hl
    have HC := Aside0.mk hc
    have HP := Aside0.mk hp
    have HGE := Aside0.mk hge
    have HGR := Aside0.mk hgr
    have HBW := Aside0.mk hB
    have HL3 := Aside0.mk hl3
    have HC2 := Aside0.mk hc2
    have HFR := Aside0.mk hfresh
    have HIT := Aside0.mk hit
    have HLN := Aside0.mk hlen2
    clear hl hc hp hge hgr hB hx hxm hfresh hlen2 hsz hl3 hc2 hit
    gi_wp2
    have hw : wrap64 ((pre.length : Int) + 1) = ((pre.length + 1 : Nat) : Int) := by have := HLN.out; have := hlen.out; unfold wrap64; omega
    rw [hw]
    refine ⟨(keepsFrom_set HL.out).trans (keepsFrom_set HC2.out), ((Below.refl w.heap.size W).setCell GB.out _).setCell GC0.out _, (KeepS.setCell HL.out (by decide)).trans (KeepS.setCell HC2.out (by decide)), ?_, ?_, blk_far (p := ⟨gc, 0, none⟩) (blk_far (p := ⟨w3.heap.size, i, none⟩) HP.out (fun e_ => by have h1_ := SZ6.out; have h2_ := SZ3.out; have h3_ := SZ5.out; simp only [] at e_; omega) _) (fun e_ => by have h1_ := SZ6.out; have h2_ := SZ3.out; have h3_ := SZ5.out; simp only [] at e_; omega) _, blk_far (p := ⟨gc, 0, none⟩) (blk_far (p := ⟨w3.heap.size, i, none⟩) HGE.out (fun e_ => by have h1_ := SZ6.out; have h2_ := SZ3.out; have h3_ := SZ5.out; simp only [] at e_; omega) _) (fun e_ => by have h1_ := SZ6.out; have h2_ := SZ3.out; have h3_ := SZ5.out; simp only [] at e_; omega) _, blk_far (p := ⟨gc, 0, none⟩) (blk_far (p := ⟨w3.heap.size, i, none⟩) HGR.out (fun e_ => by have h1_ := SZ6.out; have h2_ := SZ3.out; have h3_ := SZ5.out; simp only [] at e_; omega) _) (fun e_ => by have h1_ := SZ6.out; have h2_ := SZ3.out; have h3_ := SZ5.out; simp only [] at e_; omega) _, (HBW.out.setCell GB.out _).setCell GC0.out _⟩
    · refine blk_far (p := ⟨gc, 0, none⟩) ?_ (fun e_ => by have h1_ := SZ6.out; have h2_ := SZ3.out; have h3_ := SZ5.out; simp only [] at e_; omega) _
      have h := HL3.out
      rw [List.setIfInBounds_toArray, ← List.map_set] at h
      have h2 := plcL_set ns.length (pre.map Prod.fst) i HIT.out HFR.out
      rw [List.length_map] at h2
      rw [h2] at h
      rw [List.map_append]
      exact h
    · rw [List.length_append]
      exact blk_put HC2.out 0 _ rfl
  case done =>
    rintro D W hD ⟨hl, hc, hp, hge, hgr, hB⟩ hd
    rw [T.preD_fst 0] at hl
    rw [BT.preD_len, PLN] at hc
    have he := blk2 (w := W) hge
    have hcn := ((blk_cell hc 0).trans rfl : W.cell? ⟨gc, 0, none⟩ = some (.int .i64 (ns.length : Int)))
    have HL := Aside0.mk hl
    have HC := Aside0.mk hc
    have HP := Aside0.mk hp
    have HGE := Aside0.mk hge
    have HGR := Aside0.mk hgr
    have HBW := Aside0.mk hB
    have HD := Aside0.mk hd
    have HDW := Aside0.mk hD
    have he9 := fun o => (blk2 (w := W.alloc o) (blk_alloc hge o)).1
    have he99 := fun o o2 => (blk2 (w := (W.alloc o).alloc o2) (blk_alloc (blk_alloc hge o) o2)).1
    have hc9 := fun o => ((blk_cell (blk_alloc hc o) 0).trans rfl : (W.alloc o).cell? ⟨gc, 0, none⟩ = some (.int .i64 (ns.length : Int)))
    clear hl hc hp hge hgr hB hd hD
    go_wp2
    go_cut [9] from 35 (fun s9 wc => ∃ gb gn, s9 = .pointer (some ⟨gb, 0, none⟩) ∧ Aside0 (wc.heap[gb]? = some (.cells #[.int .i64 t0, .slice (some ⟨gn, 0, none⟩) ns.length ns.length] 37 (0, 0))) ∧ Aside0 (wc.heap[gn]? = some (.cells (madeCells #[.int .u8 0, .int .i64 0, .int .i64 0, .float .f64 0, .slice none 0 0, .int .u8 0, .int .i64 0, .int .i64 0] (ns.length * 8)) 65 (0, 0))) ∧ Aside0 (gb ≠ gn ∧ W.heap.size ≤ gb ∧ W.heap.size ≤ gn) ∧ Aside0 (Below W.heap.size W wc))
    case first =>
      go_region
      · go_wp2
        go_meet
        obtain ⟨a1, a2, a3⟩ := two_alloc W (.cells (madeCells #[.int .u8 0, .int .i64 0, .int .i64 0, .float .f64 0, .slice none 0 0, .int .u8 0, .int .i64 0, .int .i64 0] (ns.length * 8)) 65 (0, 0)) (.cells #[.int .i64 t0, .slice (some ⟨W.heap.size, 0, none⟩) ns.length ns.length] 37)
        exact ⟨_, _, rfl, ⟨a2⟩, ⟨a1⟩, ⟨by omega⟩, ⟨a3⟩⟩
      · go_wp2
        go_meet
        obtain ⟨a1, a2, a3⟩ := two_alloc W (.cells #[.int .i64 t0, .slice (some ⟨W.heap.size + 1, 0, none⟩) ns.length ns.length] 37) (.cells (madeCells #[.int .u8 0, .int .i64 0, .int .i64 0, .float .f64 0, .slice none 0 0, .int .u8 0, .int .i64 0, .int .i64 0] (ns.length * 8)) 65)
        exact ⟨_, _, rfl, ⟨a1⟩, ⟨a2⟩, ⟨by omega⟩, ⟨a3⟩⟩
    case rest =>
      obtain ⟨gb, gn, rfl, Bgb, Bgn, GS, hbc⟩ := hcut
      have GS2 := Aside0.mk (show w.heap.size ≤ gb ∧ w.heap.size ≤ gn from ⟨Nat.le_trans HBW.out.size GS.out.2.1, Nat.le_trans HBW.out.size GS.out.2.2⟩)
      have GL := Aside0.mk (show ge < gn ∧ gr < gn ∧ gp < gn ∧ w3.heap.size < gn ∧ gc < gn ∧ D < gn ∧ ge < gb ∧ gr < gb ∧ gp < gb ∧ w3.heap.size < gb ∧ gc < gb ∧ D < gb from by
        have h1 := blk_lt HGE.out; have h2 := blk_lt HGR.out; have h3 := blk_lt HP.out; have h4 := blk_lt HL.out; have h5 := blk_lt HC.out; have h6 := (Array.getElem?_eq_some_iff.1 HD.out).1; have h7 := GS.out; omega)
      have Bl := Aside0.mk (blk_below HL.out hbc.out)
      have Bp := Aside0.mk (blk_below HP.out hbc.out)
      have Bge := Aside0.mk (blk_below HGE.out hbc.out)
      have Bgr := Aside0.mk (blk_below HGR.out hbc.out)
      have BD := Aside0.mk ((hbc.out.block D (Array.getElem?_eq_some_iff.1 HD.out).1).trans HD.out)
      have HB := Aside0.mk (below_step HBW.out hbc.out)
      have HO := Aside0.mk (Kd.R_madeD k65 (w := wc) (g := gn) (e := 65) (base := w.heap.size) (n := ns.length) (z := .agg #[.int .u8 0, .int .i64 0, .int .i64 0, .float .f64 0, .slice none 0 0, .int .u8 0, .int .i64 0, .int .i64 0]) (z0 := zeroN) GS2.out.2 Bgn.out rfl (by decide) (by exact k65_mkM _ _ _ zeroN (Kd.R_nil _ _ _ _ _)) (by have := hlen.out; unfold maxLen; omega))
      clear HL HP HGE HGR HD HBW Bgn HC he hcn he9 hc9 he99
      have he := blk2 (w := wc) Bge.out
      rw [← outL_zero ns T.pre ns.length PLN] at HO
      go_wp2
      go_loopg [43] (ns.length + 1) (fun kq v43 w' => ∃ (z : Int) (m : Nat), v43 = .int .i64 z ∧ Aside0 (z = m) ∧ Aside0 (m ≤ ns.length) ∧ Aside0 (ns.length - m < kq) ∧ Aside0 (Kd.R k65 65 w' w.heap.size (fun _ => True) (.slice (some ⟨gn, 0, none⟩) ns.length ns.length) (outL ns T.pre m)) ∧ Aside0 (w'.heap[gb]? = some (.cells #[.int .i64 t0, .slice (some ⟨gn, 0, none⟩) ns.length ns.length] 37 (0, 0))) ∧ Aside0 (w'.heap[w3.heap.size]? = some (.cells ((plcL ns.length T.pre).map (Value.int .i64)).toArray 3 (0, 0))) ∧ Aside0 (w'.heap[gp]? = some (.cells #[.slice (some ⟨w3.heap.size, 0, none⟩) ns.length ns.length] 56 (0, 0))) ∧ Aside0 (w'.heap[ge]? = some (.cells #[.int .i64 t0, .slice A1 ns.length c1] 37 (0, 0))) ∧ Aside0 (w'.heap[gr]? = some (.cells #[.int .i64 0, .slice none 0 0] 37 (0, 0))) ∧ Aside0 (w'.heap[D]? = some (.deferred (some []))) ∧ Aside0 (Below w.heap.size w w'))
      case atStart => exact ⟨0, 0, rfl, ⟨rfl⟩, ⟨Nat.zero_le _⟩, ⟨by omega⟩, HO, Bgb, Bl, Bp, Bge, Bgr, BD, HB⟩
      case round =>
        clear HO Bgb Bl Bp Bge Bgr BD HB he
        obtain ⟨z, m, rfl, hz, hm, hk, HO, Bgb, Bl, Bp, Bge, Bgr, BD, HB⟩ := hrel
        cases gk with
        | zero => exact absurd hk.out (by omega)
        | succ k1 =>
          have hzz := hz.out
          have hmm := hm.out
          by_cases hend : m = ns.length
          · have cnd : decide (z < (ns.length : Int)) = false := decide_eq_false (by omega)
            subst hend
            have hb2 := blk2 (w := wr) Bgb.out
            have hr2 := blk2 (w := wr) Bgr.out
            clear hzz hmm
            go_wp2
            have ngr : D ≠ gr := fun e_ => by have h := BD.out; rw [e_, Bgr.out] at h; cases h
            have g1 : (wr.setCell ⟨gr, 0, none⟩ (.int .i64 t0)).heap[gr]? = some (.cells #[.int .i64 t0, .slice none 0 0] 37 (0, 0)) := blk_put Bgr.out 0 (.int .i64 t0) rfl
            obtain ⟨W9, hW9⟩ : ∃ W9, W9 = (wr.setCell ⟨gr, 0, none⟩ (.int .i64 t0)).setCell ⟨gr, 1, none⟩ (.slice (some ⟨gn, 0, none⟩) ns.length ns.length) := ⟨_, rfl⟩
            have g2 : W9.heap[gr]? = some (.cells #[.int .i64 t0, .slice (some ⟨gn, 0, none⟩) ns.length ns.length] 37 (0, 0)) := by rw [hW9]; exact blk_put g1 1 _ rfl
            have d2 : W9.heap[D]? = some (.deferred (some [])) := by rw [hW9]; exact (Below.heap_setCell _ ⟨gr, 1, none⟩ _ D ngr).trans ((Below.heap_setCell wr ⟨gr, 0, none⟩ _ D ngr).trans BD.out)
            have r2 : Kd.R k65 65 W9 w.heap.size (fun _ => True) (.slice (some ⟨gn, 0, none⟩) ns.length ns.length) (canonL ns T.pre) := by
              rw [hW9, ← outL_all ns T.pre ns.length (fun i hi => hT.out.is.lt T i hi)]
              exact Kd.R_setB (Kd.R_setB HO.out Bgr.out (by decide) 0 _) g1 (by decide) 1 _
            have b2 : Below w.heap.size w W9 := by rw [hW9]; exact below_set (below_set HB.out GR.out) GR.out
            rw [← hW9]
            have dlt : w.heap.size ≤ D := Nat.le_trans hbW.out.size HDW.out
            refine ⟨by simp, .inl ⟨_, _, rfl, run_takeDeferred d2, ?_⟩⟩
            refine ⟨_, results_ct rfl _ _ gr 37 #[.int .i64 t0, .slice (some ⟨gn, 0, none⟩) ns.length ns.length] (0, 0) _ rfl ((World.putObj_heap_other (Ne.symm ngr)).trans g2) Tryd.underlying37 rfl (by kernel_rfl), _, rfl, Kd.R_mono (Kd.R_move (Kd.R_bound r2) (fun k hk => World.putObj_heap_other (fun e_ => by
              obtain ⟨_, _, _, _, _, cells, hc⟩ := hk
              rw [e_, d2] at hc
              cases hc))) (fun _ _ => trivial), b2.trans (putObj_below W9 D _ dlt (Array.getElem?_eq_some_iff.1 d2).1)⟩
          · have cnd : decide (z < (ns.length : Int)) = true := decide_eq_true (by omega)
            have p1 : 0 ≤ z := by omega
            have p2 : z < (ns.length : Int) := by omega
            have hlt : m < ns.length := by omega
            have hzm : z.toNat = m := by omega
            obtain ⟨ad, A4, c4, eA1, e0, e1, e2, e3, e4, e5, e6, e7, l4, g4⟩ := at_T65 hns.out z p1 p2
            subst eA1
            obtain ⟨x, hx⟩ : ∃ x, x = rd_T65 ns z := ⟨_, rfl⟩
            rw [← hx] at e0 e1 e2 e3 e4 e5 e6 e7 l4 g4
            have hxm : x = rd_T65 ns (m : Int) := by rw [hx, hzz]
            have hmem : x ∈ ns := by
              rw [hxm]
              unfold rd_T65
              rw [Int.toNat_natCast, List.getD_eq_getElem?_getD, List.getElem?_eq_getElem hlt]
              exact List.getElem_mem hlt
            have SX := Aside0.mk (hcats.out x hmem)
            replace e0 := (HB.out.cell (World.block_lt_of_cell? w _ e0)).trans e0
            replace e1 := (HB.out.cell (World.block_lt_of_cell? w _ e1)).trans e1
            replace e2 := (HB.out.cell (World.block_lt_of_cell? w _ e2)).trans e2
            replace e3 := (HB.out.cell (World.block_lt_of_cell? w _ e3)).trans e3
            replace e4 := (HB.out.cell (World.block_lt_of_cell? w _ e4)).trans e4
            replace e5 := (HB.out.cell (World.block_lt_of_cell? w _ e5)).trans e5
            replace e6 := (HB.out.cell (World.block_lt_of_cell? w _ e6)).trans e6
            replace e7 := (HB.out.cell (World.block_lt_of_cell? w _ e7)).trans e7
            have G4 := Aside0.mk g4
            have HXM := Aside0.mk hxm
            have HLT := Aside0.mk hlt
            have XN := Aside0.mk hzz
            have HZM := Aside0.mk hzm
            replace p1 := eq_true p1
            replace p2 := eq_true p2
            have hx9 := blk8 (w := wr.alloc (.cells #[.int .u8 x.f0, .int .i64 x.f1, .int .i64 x.f2, .float .f64 x.f3, .slice A4 x.f4.length c4, .int .u8 x.f5, .int .i64 x.f6, .int .i64 x.f7] 65)) (blk_new wr _)
            clear hzz hmm hend hlt hx hxm hmem g4 l4 hzm
            go_wp2_with (first | (go_at_call 39; refine (cloneIntC.calls A4 x.f4.length c4 x.f4 _ ⟨Kd.C_alloc (Kd.C_below G4.out HB.out) _⟩ SX.out).mono ?_; rintro e wa ⟨v6, rfl, R, hb⟩; obtain ⟨A6, c6, rfl, _, _⟩ := Kd.R_reads R; have Bx := Aside0.mk (blk_below (blk_new wr (.cells #[.int .u8 x.f0, .int .i64 x.f1, .int .i64 x.f2, .float .f64 x.f3, .slice A4 x.f4.length c4, .int .u8 x.f5, .int .i64 x.f6, .int .i64 x.f7] 65)) hb); have LX := Aside0.mk (fun (k : Nat) (o : Obj) (h : wr.heap[k]? = some o) => Nat.ne_of_lt (blk_lt h)); have GNX := Aside0.mk (show gn < wr.heap.size from by obtain ⟨_, hc_⟩ := Kd.R_typed HO.out gn rfl; exact blk_lt hc_); have NX := Aside0.mk (show gb ≠ wr.heap.size ∧ w3.heap.size ≠ wr.heap.size ∧ gp ≠ wr.heap.size ∧ ge ≠ wr.heap.size ∧ gr ≠ wr.heap.size ∧ D ≠ wr.heap.size ∧ w.heap.size ≤ wr.heap.size from ⟨LX.out _ _ Bgb.out, LX.out _ _ Bl.out, LX.out _ _ Bp.out, LX.out _ _ Bge.out, LX.out _ _ Bgr.out, LX.out _ _ BD.out, below_size HB.out⟩); have R6 := Aside0.mk (show Kd.R (Kd.int .i64) 3 wa w.heap.size (fun k => k ≠ gn) (.slice A6 x.f4.length c6) x.f4 from Kd.R_lower (Kd.R_mono (ok' := fun k => k ≠ gn) (Kd.R_bound R) (fun k hk => by have h1_ := hk.2.1; have h2_ := GNX.out; rw [World.size_alloc] at h1_; exact fun e_ => by subst e_; omega)) (by have h_ := below_size HB.out; rw [World.size_alloc]; omega)); have mHO_ := Aside0.mk (Kd.R_below (Kd.R_alloc (Kd.R_elderB HO.out wr.heap.size (Nat.le_refl _)) _) hb); have mBgb_ := Aside0.mk (blk_below (blk_alloc Bgb.out _) hb); have mBl_ := Aside0.mk (blk_below (blk_alloc Bl.out _) hb); have mBp_ := Aside0.mk (blk_below (blk_alloc Bp.out _) hb); have mBge_ := Aside0.mk (blk_below (blk_alloc Bge.out _) hb); have mBgr_ := Aside0.mk (blk_below (blk_alloc Bgr.out _) hb); have mBD_ := Aside0.mk (blk_below (blk_alloc BD.out _) hb); have mHB_ := Aside0.mk (below_step (below_alloc HB.out _) hb); clear HO Bgb Bl Bp Bge Bgr BD HB; have HO := mHO_; have Bgb := mBgb_; have Bl := mBl_; have Bp := mBp_; have Bge := mBge_; have Bgr := mBgr_; have BD := mBD_; have HB := mHB_; clear mHO_ mBgb_ mBl_ mBp_ mBge_ mBgr_ mBD_ mHB_; clear R LX hb hx9 e0 e1 e2 e3 e4 e5 e6 e7; have hx5 := blk8 (w := wa) Bx.out; have hx8 := blk8 (show (wa.setCell ⟨wr.heap.size, 4, none⟩ (.slice A6 x.f4.length c6)).heap[wr.heap.size]? = some (.cells #[.int .u8 x.f0, .int .i64 x.f1, .int .i64 x.f2, .float .f64 x.f3, .slice A6 x.f4.length c6, .int .u8 x.f5, .int .i64 x.f6, .int .i64 x.f7] 65 (0, 0)) from blk_put Bx.out 4 (.slice A6 x.f4.length c6) rfl)) | (go_at_call 41; go_loud (have mHO_ := Aside0.mk (Kd.R_far (p := ⟨wr.heap.size, 4, none⟩) HO.out (fun _ h => h.2) (.slice A6 x.f4.length c6)); have mR6_ := Aside0.mk (Kd.R_setB R6.out Bx.out (by decide) 4 (.slice A6 x.f4.length c6)); have mBgb_ := Aside0.mk (blk_far (p := ⟨wr.heap.size, 4, none⟩) Bgb.out NX.out.1 (.slice A6 x.f4.length c6)); have mBl_ := Aside0.mk (blk_far (p := ⟨wr.heap.size, 4, none⟩) Bl.out NX.out.2.1 (.slice A6 x.f4.length c6)); have mBp_ := Aside0.mk (blk_far (p := ⟨wr.heap.size, 4, none⟩) Bp.out NX.out.2.2.1 (.slice A6 x.f4.length c6)); have mBge_ := Aside0.mk (blk_far (p := ⟨wr.heap.size, 4, none⟩) Bge.out NX.out.2.2.2.1 (.slice A6 x.f4.length c6)); have mBgr_ := Aside0.mk (blk_far (p := ⟨wr.heap.size, 4, none⟩) Bgr.out NX.out.2.2.2.2.1 (.slice A6 x.f4.length c6)); have mBD_ := Aside0.mk ((Below.heap_setCell _ ⟨wr.heap.size, 4, none⟩ (.slice A6 x.f4.length c6) D NX.out.2.2.2.2.2.1).trans BD.out); have mBx_ := Aside0.mk (show (wa.setCell ⟨wr.heap.size, 4, none⟩ (.slice A6 x.f4.length c6)).heap[wr.heap.size]? = some (.cells #[.int .u8 x.f0, .int .i64 x.f1, .int .i64 x.f2, .float .f64 x.f3, .slice A6 x.f4.length c6, .int .u8 x.f5, .int .i64 x.f6, .int .i64 x.f7] 65 (0, 0)) from blk_put Bx.out 4 (.slice A6 x.f4.length c6) rfl); have mHB_ := Aside0.mk (below_set (g := wr.heap.size) (j := 4) (v := (.slice A6 x.f4.length c6)) HB.out NX.out.2.2.2.2.2.2); clear HO R6 Bgb Bl Bp Bge Bgr BD Bx HB; have HO := mHO_; have R6 := mR6_; have Bgb := mBgb_; have Bl := mBl_; have Bp := mBp_; have Bge := mBge_; have Bgr := mBgr_; have BD := mBD_; have Bx := mBx_; have HB := mHB_; clear mHO_ mR6_ mBgb_ mBl_ mBp_ mBge_ mBgr_ mBD_ mBx_ mHB_; refine (trees_inner.calls x.f0 x.f1 x.f2 x.f3 A6 c6 x.f4 x.f5 x.f6 x.f7 _ _ (Kd.R_reads' R6.out).2.2 (Kd.R_reads' R6.out).2.1 (inner_f x)).mono ?_; rintro e wb ⟨rfl, hb⟩; have mHO_ := Aside0.mk (Kd.R_below HO.out hb); have mR6_ := Aside0.mk (Kd.R_below R6.out hb); have mBgb_ := Aside0.mk (blk_below Bgb.out hb); have mBl_ := Aside0.mk (blk_below Bl.out hb); have mBp_ := Aside0.mk (blk_below Bp.out hb); have mBge_ := Aside0.mk (blk_below Bge.out hb); have mBgr_ := Aside0.mk (blk_below Bgr.out hb); have mBD_ := Aside0.mk (blk_below BD.out hb); have mBx_ := Aside0.mk (blk_below Bx.out hb); have mHB_ := Aside0.mk (below_step HB.out hb); clear HO R6 Bgb Bl Bp Bge Bgr BD Bx HB; have HO := mHO_; have R6 := mR6_; have Bgb := mBgb_; have Bl := mBl_; have Bp := mBp_; have Bge := mBge_; have Bgr := mBgr_; have BD := mBD_; have Bx := mBx_; have HB := mHB_; clear mHO_ mR6_ mBgb_ mBl_ mBp_ mBge_ mBgr_ mBD_ mBx_ mHB_; clear hb hx5 hx8; have hx6 := blk8 (w := wb) Bx.out)))
            · have hq : innerB x = true := by assumption
              obtain ⟨k6a, k6b, k7a, k7b, _⟩ := kids_of TF.out HLT.out (show innerB (rd_T65 ns (m : Int)) = true by rw [← HXM.out]; exact hq)
              rw [← HXM.out] at k6a k6b k7a k7b
              obtain ⟨f6, hf6⟩ : ∃ f6 : Int, f6 = ((T.pre.idxOf x.f6.toNat : Nat) : Int) := ⟨_, rfl⟩
              obtain ⟨f7, hf7⟩ : ∃ f7 : Int, f7 = ((T.pre.idxOf x.f7.toNat : Nat) : Int) := ⟨_, rfl⟩
              have hl6 := plc_cell HCV.out Bl.out x.f6 (by omega) k6b
              have hl7 := plc_cell HCV.out Bl.out x.f7 (by omega) k7b
              rw [← hf6] at hl6
              rw [← hf7] at hl7
              have Bx6 := Aside0.mk (show (wb.setCell ⟨wr.heap.size, 6, none⟩ (.int .i64 f6)).heap[wr.heap.size]? = some (.cells #[.int .u8 x.f0, .int .i64 x.f1, .int .i64 x.f2, .float .f64 x.f3, .slice A6 x.f4.length c6, .int .u8 x.f5, .int .i64 f6, .int .i64 x.f7] 65 (0, 0)) from blk_put Bx.out 6 (.int .i64 f6) rfl)
              have hx66 := blk8 Bx6.out
              have hcn : cnN T.pre x = ⟨x.f0, x.f1, x.f2, x.f3, x.f4, x.f5, f6, f7⟩ := by unfold cnN; rw [if_pos hq, hf6, hf7]
              have HCN := Aside0.mk hcn
              have HL6 := Aside0.mk hl6
              have HL7 := Aside0.mk hl7
              have i6 := eq_true (show 0 ≤ x.f6 by omega)
              have i6' := eq_true k6b
              have i7 := eq_true (show 0 ≤ x.f7 by omega)
              have i7' := eq_true k7b
              have hxd := blk8 (w := wb.drew) (blk_drew Bx.out)
              clear hf6 hf7 k6a k6b k7a k7b hcn hxd hl6 hl7
              refine start_ (n := 14) (S := fun w' => w'.cell? ⟨gp, 0, none⟩ = some (.slice (some ⟨w3.heap.size, 0, none⟩) ns.length ns.length) ∧ w'.cell? ⟨wr.heap.size, 7, none⟩ = some (.int .i64 x.f7) ∧ w'.cell? ⟨w3.heap.size, x.f6.toNat, none⟩ = some (.int .i64 f6) ∧ w'.cell? ⟨w3.heap.size, x.f7.toNat, none⟩ = some (.int .i64 f7)) (ds := [13]) #[false, false, false, false, false, false, false, false, false, false, false, false, false, false] (by kernel_rfl) rfl rfl ⟨((blk_cell (blk_drew Bp.out) 0).trans rfl), ((blk_cell (blk_drew Bx.out) 7).trans rfl), HL6.out, HL7.out⟩ (fun hHeld => ?_)
              refine pure_ (i := 1) (N := some 55) (v := ?_) (a' := ?_) #[false, true, false, false, false, false, false, false, false, false, false, false, false, false] rfl rfl (by kernel_rfl) (fun _ _ _ h => h) (Or.inl ⟨by rfl, ?_⟩) ?_ ?_
              rotate_left
              · intro w'
                go_simp
                with_reducible rfl
              rotate_left
              · simp only [Act.put, List.setIfInBounds_toArray, List.set_cons_zero, List.set_cons_succ, i64_w, i32_w]
                rfl
              refine pure_ (i := 6) (N := some 60) (v := ?_) (a' := ?_) #[false, true, false, false, false, false, true, false, false, false, false, false, false, false] rfl rfl (by kernel_rfl) (fun _ _ _ h => h) (Or.inl ⟨by rfl, ?_⟩) ?_ ?_
              rotate_left
              · intro w'
                go_simp
                with_reducible rfl
              rotate_left
              · simp only [Act.put, List.setIfInBounds_toArray, List.set_cons_zero, List.set_cons_succ, i64_w, i32_w]
                rfl
              refine take_ (i := 0) (N := some 54) (v := ?_) (a' := ?_) #[true, true, false, false, false, false, true, false, false, false, false, false, false, false] rfl rfl (by kernel_rfl) (fun _ _ _ h => h) (Or.inl ⟨by rfl, ?_⟩) hHeld ?_ ?_
              rotate_left
              · rintro w' ⟨s0, s1, s2, s3⟩
                go_simp
                with_reducible rfl
              rotate_left
              · simp only [Act.put, List.setIfInBounds_toArray, List.set_cons_zero, List.set_cons_succ, i64_w, i32_w]
                rfl
              refine take_ (i := 5) (N := some 59) (v := ?_) (a' := ?_) #[true, true, false, false, false, true, true, false, false, false, false, false, false, false] rfl rfl (by kernel_rfl) (fun _ _ _ h => h) (Or.inl ⟨by rfl, ?_⟩) hHeld ?_ ?_
              rotate_left
              · rintro w' ⟨s0, s1, s2, s3⟩
                go_simp
                with_reducible rfl
              rotate_left
              · simp only [Act.put, List.setIfInBounds_toArray, List.set_cons_zero, List.set_cons_succ, i64_w, i32_w]
                rfl
              refine take_ (i := 7) (N := some 61) (v := ?_) (a' := ?_) #[true, true, false, false, false, true, true, true, false, false, false, false, false, false] rfl rfl (by kernel_rfl) (fun _ _ _ h => h) (Or.inl ⟨by rfl, ?_⟩) hHeld ?_ ?_
              rotate_left
              · rintro w' ⟨s0, s1, s2, s3⟩
                go_simp
                with_reducible rfl
              rotate_left
              · simp only [Act.put, List.setIfInBounds_toArray, List.set_cons_zero, List.set_cons_succ, i64_w, i32_w]
                rfl
              refine pure_ (i := 8) (N := some 62) (v := ?_) (a' := ?_) #[true, true, false, false, false, true, true, true, true, false, false, false, false, false] rfl rfl (by kernel_rfl) (fun _ _ _ h => h) (Or.inl ⟨by rfl, ?_⟩) ?_ ?_
              rotate_left
              · intro w'
                go_simp
                with_reducible rfl
              rotate_left
              · simp only [Act.put, List.setIfInBounds_toArray, List.set_cons_zero, List.set_cons_succ, i64_w, i32_w]
                rfl
              refine take_ (i := 9) (N := some 63) (v := ?_) (a' := ?_) #[true, true, false, false, false, true, true, true, true, true, false, false, false, false] rfl rfl (by kernel_rfl) (fun _ _ _ h => h) (Or.inl ⟨by rfl, ?_⟩) hHeld ?_ ?_
              rotate_left
              · rintro w' ⟨s0, s1, s2, s3⟩
                go_simp
                with_reducible rfl
              rotate_left
              · simp only [Act.put, List.setIfInBounds_toArray, List.set_cons_zero, List.set_cons_succ, i64_w, i32_w]
                rfl
              refine one_ (i := 2) (N := some 56) #[true, true, true, false, false, true, true, true, true, true, false, false, false, false] rfl rfl (by kernel_rfl) (by decide) (fun K hK => ?_)
              refine value_ (w1 := ?_) (v := ?_) (by rfl) rfl ?_ ?_
              rotate_left 2
              · go_simp
                constructor
                · rfl
                · rfl
              refine hK.out _ _ ⟨((blk_cell (blk_drew Bp.out) 0).trans rfl), ((blk_cell (blk_drew Bx.out) 7).trans rfl), HL6.out, HL7.out⟩ (fun hHeld => ?_)
              clear hK K
              refine norm_ (a' := ?_) ?_ ?_
              rotate_left
              · show Act.put _ (some 56) _ = _
                simp only [Act.put, List.setIfInBounds_toArray, List.set_cons_zero, List.set_cons_succ, i64_w, i32_w]
                rfl
              refine pure_ (i := 3) (N := some 57) (v := ?_) (a' := ?_) #[true, true, true, true, false, true, true, true, true, true, false, false, false, false] rfl rfl (by kernel_rfl) (fun _ _ _ h => h) (Or.inl ⟨by rfl, ?_⟩) ?_ ?_
              rotate_left
              · intro w'
                go_simp
                with_reducible rfl
              rotate_left
              · simp only [Act.put, List.setIfInBounds_toArray, List.set_cons_zero, List.set_cons_succ, i64_w, i32_w]
                rfl
              refine take_ (i := 4) (N := some 58) (v := ?_) (a' := ?_) #[true, true, true, true, true, true, true, true, true, true, false, false, false, false] rfl rfl (by kernel_rfl) (fun _ _ _ h => h) (Or.inl ⟨by rfl, ?_⟩) hHeld ?_ ?_
              rotate_left
              · rintro w' ⟨s0, s1, s2, s3⟩
                go_simp
                with_reducible rfl
              rotate_left
              · simp only [Act.put, List.setIfInBounds_toArray, List.set_cons_zero, List.set_cons_succ, i64_w, i32_w]
                rfl
              refine pure_ (i := 10) (N := some 64) (v := ?_) (a' := ?_) #[true, true, true, true, true, true, true, true, true, true, true, false, false, false] rfl rfl (by kernel_rfl) (fun _ _ _ h => h) (Or.inl ⟨by rfl, ?_⟩) ?_ ?_
              rotate_left
              · intro w'
                go_simp
                with_reducible rfl
              rotate_left
              · simp only [Act.put, List.setIfInBounds_toArray, List.set_cons_zero, List.set_cons_succ, i64_w, i32_w]
                rfl
              refine one_ (i := 11) (N := none) #[true, true, true, true, true, true, true, true, true, true, true, true, false, false] rfl rfl (by kernel_rfl) (by decide) (fun K hK => ?_)
              refine skip_ (w1 := ?_) (by rfl) rfl ?_ ?_
              rotate_left
              · go_simp
                rfl
              refine hK.out _ _ ⟨((blk_cell (blk_far (p := ⟨wr.heap.size, 6, none⟩) (blk_drew Bp.out) NX.out.2.2.1 (.int .i64 f6)) 0).trans rfl), ((blk_cell Bx6.out 7).trans rfl), ((World.cell?_setCell_far _ _ _ _ (Ne.symm NX.out.2.1)).trans HL6.out), ((World.cell?_setCell_far _ _ _ _ (Ne.symm NX.out.2.1)).trans HL7.out)⟩ (fun hHeld => ?_)
              clear hK K
              refine pure_ (i := 12) (N := some 65) (v := ?_) (a' := ?_) #[true, true, true, true, true, true, true, true, true, true, true, true, true, false] rfl rfl (by kernel_rfl) (fun _ _ _ h => h) (Or.inl ⟨by rfl, ?_⟩) ?_ ?_
              rotate_left
              · intro w'
                go_simp
                with_reducible rfl
              rotate_left
              · simp only [Act.put, List.setIfInBounds_toArray, List.set_cons_zero, List.set_cons_succ, i64_w, i32_w]
                rfl
              refine last_ (i := 13) (N := none) #[true, true, true, true, true, true, true, true, true, true, true, true, true, true] rfl rfl (by kernel_rfl) (by decide) (fun K hK => ?_)
              refine skip_ (w1 := ?_) (by rfl) rfl ?_ ?_
              rotate_left
              · go_simp
                rfl
              refine hK.out _ _ ?_
              clear hK K
              refine done_ (by kernel_rfl) ?_
              
              obtain ⟨wz, hwz⟩ : ∃ wz, wz = ((wb.setCell ⟨wr.heap.size, 6, none⟩ (.int .i64 f6)).setCell ⟨wr.heap.size, 7, none⟩ (.int .i64 f7)).drew := ⟨_, rfl⟩
              rw [← hwz]
              have zHO := Aside0.mk (show Kd.R k65 65 wz w.heap.size (fun k => True ∧ k ≠ wr.heap.size) (.slice (some ⟨gn, 0, none⟩) ns.length ns.length) (outL ns T.pre m) by rw [hwz]; exact Kd.R_drew (Kd.R_far (p := ⟨wr.heap.size, 7, none⟩) (Kd.R_far (p := ⟨wr.heap.size, 6, none⟩) HO.out (fun _ h => h.2) (.int .i64 f6)) (fun _ h => h.2) (.int .i64 f7)))
              have zR6 := Aside0.mk (show Kd.R (Kd.int .i64) 3 wz w.heap.size (fun k => k ≠ gn) (.slice A6 x.f4.length c6) x.f4 by rw [hwz]; exact Kd.R_drew (Kd.R_setB (Kd.R_setB R6.out Bx.out (by decide) 6 (.int .i64 f6)) Bx6.out (by decide) 7 (.int .i64 f7)))
              have zBgb := Aside0.mk (show wz.heap[gb]? = some (.cells #[.int .i64 t0, .slice (some ⟨gn, 0, none⟩) ns.length ns.length] 37 (0, 0)) by rw [hwz]; exact blk_drew (blk_far (p := ⟨wr.heap.size, 7, none⟩) (blk_far (p := ⟨wr.heap.size, 6, none⟩) Bgb.out NX.out.1 (.int .i64 f6)) NX.out.1 (.int .i64 f7)))
              have zBl := Aside0.mk (show wz.heap[w3.heap.size]? = some (.cells ((plcL ns.length T.pre).map (Value.int .i64)).toArray 3 (0, 0)) by rw [hwz]; exact blk_drew (blk_far (p := ⟨wr.heap.size, 7, none⟩) (blk_far (p := ⟨wr.heap.size, 6, none⟩) Bl.out NX.out.2.1 (.int .i64 f6)) NX.out.2.1 (.int .i64 f7)))
              have zBp := Aside0.mk (show wz.heap[gp]? = some (.cells #[.slice (some ⟨w3.heap.size, 0, none⟩) ns.length ns.length] 56 (0, 0)) by rw [hwz]; exact blk_drew (blk_far (p := ⟨wr.heap.size, 7, none⟩) (blk_far (p := ⟨wr.heap.size, 6, none⟩) Bp.out NX.out.2.2.1 (.int .i64 f6)) NX.out.2.2.1 (.int .i64 f7)))
              have zBge := Aside0.mk (show wz.heap[ge]? = some (.cells #[.int .i64 t0, .slice (some ad) ns.length c1] 37 (0, 0)) by rw [hwz]; exact blk_drew (blk_far (p := ⟨wr.heap.size, 7, none⟩) (blk_far (p := ⟨wr.heap.size, 6, none⟩) Bge.out NX.out.2.2.2.1 (.int .i64 f6)) NX.out.2.2.2.1 (.int .i64 f7)))
              have zBgr := Aside0.mk (show wz.heap[gr]? = some (.cells #[.int .i64 0, .slice none 0 0] 37 (0, 0)) by rw [hwz]; exact blk_drew (blk_far (p := ⟨wr.heap.size, 7, none⟩) (blk_far (p := ⟨wr.heap.size, 6, none⟩) Bgr.out NX.out.2.2.2.2.1 (.int .i64 f6)) NX.out.2.2.2.2.1 (.int .i64 f7)))
              have zBD := Aside0.mk (show wz.heap[D]? = some (.deferred (some [])) by rw [hwz]; exact (Below.heap_setCell _ ⟨wr.heap.size, 7, none⟩ (.int .i64 f7) D NX.out.2.2.2.2.2.1).trans ((Below.heap_setCell wb ⟨wr.heap.size, 6, none⟩ (.int .i64 f6) D NX.out.2.2.2.2.2.1).trans BD.out))
              have zHB := Aside0.mk (show Below w.heap.size w wz by rw [hwz]; exact below_drew (below_set (g := wr.heap.size) (j := 7) (v := .int .i64 f7) (below_set (g := wr.heap.size) (j := 6) (v := .int .i64 f6) HB.out NX.out.2.2.2.2.2.2) NX.out.2.2.2.2.2.2))
              have zBx := Aside0.mk (show wz.heap[wr.heap.size]? = some (.cells #[.int .u8 x.f0, .int .i64 x.f1, .int .i64 x.f2, .float .f64 x.f3, .slice A6 x.f4.length c6, .int .u8 x.f5, .int .i64 f6, .int .i64 f7] 65 (0, 0)) by rw [hwz]; exact blk_drew (show ((wb.setCell ⟨wr.heap.size, 6, none⟩ (.int .i64 f6)).setCell ⟨wr.heap.size, 7, none⟩ (.int .i64 f7)).heap[wr.heap.size]? = some (.cells #[.int .u8 x.f0, .int .i64 x.f1, .int .i64 x.f2, .float .f64 x.f3, .slice A6 x.f4.length c6, .int .u8 x.f5, .int .i64 f6, .int .i64 f7] 65 (0, 0)) from blk_put Bx6.out 7 (.int .i64 f7) rfl))
              clear HO R6 Bgb Bl Bp Bge Bgr BD HB Bx
              have HO := zHO
              have R6 := zR6
              have Bgb := zBgb
              have Bl := zBl
              have Bp := zBp
              have Bge := zBge
              have Bgr := zBgr
              have BD := zBD
              have HB := zHB
              have Bx := zBx
              clear zHO zR6 zBgb zBl zBp zBge zBgr zBD zHB zBx
              clear hwz hx66 hx6 HL6 HL7 i6 i6' i7 i7' Bx6
              have hqlt : T.pre.idxOf m < ns.length := by have := List.idxOf_lt_length_of_mem (HCV.out m HLT.out); omega
              have hpm := plc_cell HCV.out Bl.out z (by have := XN.out; omega) (by have := XN.out; have := HLT.out; omega)
              obtain ⟨q, hq_⟩ : ∃ q : Nat, q = T.pre.idxOf z.toNat := ⟨_, rfl⟩
              rw [← hq_] at hpm
              rw [HZM.out] at hq_
              rw [← hq_] at hqlt
              have hpz := ((blk_cell Bp.out 0).trans rfl : wz.cell? ⟨gp, 0, none⟩ = some (.slice (some ⟨w3.heap.size, 0, none⟩) ns.length ns.length))
              have hb2 := blk2 (w := wz) Bgb.out
              have hxz := blk8 (w := wz) Bx.out
              obtain ⟨c, hcl, hM, hcc, hfz⟩ := Kd.R_elem HO.out zeroN (q : Int) (by omega) (by omega)
              obtain ⟨e_, he_⟩ : ∃ e_, e_ = (outL ns T.pre m).getD (q : Int).toNat zeroN := ⟨_, rfl⟩
              rw [← he_] at hM
              obtain ⟨A9, c9, rfl, _, _⟩ := k65_open (k65.K_of_M hM)
              rw [Int.toNat_natCast] at hcc hfz
              have ex0 : wz.cell? ⟨gn, q * 8, none⟩ = some (.int .u8 e_.f0) := hcc 0 _ rfl
              have ex1 : wz.cell? ⟨gn, q * 8 + 1, none⟩ = some (.int .i64 e_.f1) := hcc 1 _ rfl
              have ex2 : wz.cell? ⟨gn, q * 8 + 2, none⟩ = some (.int .i64 e_.f2) := hcc 2 _ rfl
              have ex3 : wz.cell? ⟨gn, q * 8 + 3, none⟩ = some (.float .f64 e_.f3) := hcc 3 _ rfl
              have ex4 : wz.cell? ⟨gn, q * 8 + 4, none⟩ = some (.slice A9 e_.f4.length c9) := hcc 4 _ rfl
              have ex5 : wz.cell? ⟨gn, q * 8 + 5, none⟩ = some (.int .u8 e_.f5) := hcc 5 _ rfl
              have ex6 : wz.cell? ⟨gn, q * 8 + 6, none⟩ = some (.int .i64 e_.f6) := hcc 6 _ rfl
              have ex7 : wz.cell? ⟨gn, q * 8 + 7, none⟩ = some (.int .i64 e_.f7) := hcc 7 _ rfl
              have fx0 : wz.frozen? ⟨gn, q * 8, none⟩ = false := hfz 0
              have fx1 : wz.frozen? ⟨gn, q * 8 + 1, none⟩ = false := hfz 1
              have fx2 : wz.frozen? ⟨gn, q * 8 + 2, none⟩ = false := hfz 2
              have fx3 : wz.frozen? ⟨gn, q * 8 + 3, none⟩ = false := hfz 3
              have fx4 : wz.frozen? ⟨gn, q * 8 + 4, none⟩ = false := hfz 4
              have fx5 : wz.frozen? ⟨gn, q * 8 + 5, none⟩ = false := hfz 5
              have fx6 : wz.frozen? ⟨gn, q * 8 + 6, none⟩ = false := hfz 6
              have fx7 : wz.frozen? ⟨gn, q * 8 + 7, none⟩ = false := hfz 7
              have HQL := Aside0.mk hqlt
              have HQE := Aside0.mk hq_
              have HCC := Aside0.mk hcc
              have RS := Aside0.mk (Kd.R_seg (c := [.int .u8 e_.f0, .int .i64 e_.f1, .int .i64 e_.f2, .float .f64 e_.f3, .slice A9 e_.f4.length c9, .int .u8 e_.f5, .int .i64 e_.f6, .int .i64 e_.f7]) (seg := [.int .u8 x.f0, .int .i64 x.f1, .int .i64 x.f2, .float .f64 x.f3, .slice A6 x.f4.length c6, .int .u8 x.f5, .int .i64 f6, .int .i64 f7]) (j := 0) (x' := cnN T.pre x) (okp := fun k => k ≠ gn ∧ k ≠ wr.heap.size) (Kd.R_drew HO.out) (q : Int) (by omega) (by omega) rfl (fun j u h => by rw [Int.toNat_natCast]; exact HCC.out j u h) (by show 0 + 8 ≤ 8; omega) (show k65.M wz.drew w.heap.size (fun k => k ≠ gn ∧ k ≠ wr.heap.size) (cnN T.pre x) [.int .u8 x.f0, .int .i64 x.f1, .int .i64 x.f2, .float .f64 x.f3, .slice A6 x.f4.length c6, .int .u8 x.f5, .int .i64 f6, .int .i64 f7] by rw [HCN.out]; exact k65_mkM wz.drew w.heap.size _ ⟨x.f0, x.f1, x.f2, x.f3, x.f4, x.f5, f6, f7⟩ (Kd.R_types (Kd.R_drew R6.out) (blk_drew Bx.out) (by decide))) (fun k hk => ⟨⟨trivial, hk.2⟩, hk.1⟩))
              have i8 := eq_true (show (0 : Int) ≤ (q : Int) by omega)
              have i8' := eq_true (show (q : Int) < (ns.length : Int) by omega)
              have hst := store_row (P := Tryd.prog) (Kd.R_drew HO.out) q hqlt 65 (.agg #[.int .u8 x.f0, .int .i64 x.f1, .int .i64 x.f2, .float .f64 x.f3, .slice A6 x.f4.length c6, .int .u8 x.f5, .int .i64 f6, .int .i64 f7]) [.int .u8 x.f0, .int .i64 x.f1, .int .i64 x.f2, .float .f64 x.f3, .slice A6 x.f4.length c6, .int .u8 x.f5, .int .i64 f6, .int .i64 f7] rfl (by kernel_rfl) (by intro q_ hq__; simp only [List.mem_cons, List.not_mem_nil, or_false] at hq__; rcases hq__ with rfl | rfl | rfl | rfl | rfl | rfl | rfl | rfl <;> rfl) rfl
              clear hcc hfz hM hcl he_ hqlt hq_ ex0 fx0 ex1 fx1 ex2 fx2 ex3 fx3 ex4 fx4 ex5 fx5 ex6 fx6 ex7 fx7
              go_wp2
              refine start_ (n := 9) (S := fun w' => w'.cell? ⟨gb, 1, none⟩ = some (.slice (some ⟨gn, 0, none⟩) ns.length ns.length) ∧ w'.cell? ⟨gp, 0, none⟩ = some (.slice (some ⟨w3.heap.size, 0, none⟩) ns.length ns.length) ∧ w'.cell? ⟨w3.heap.size, z.toNat, none⟩ = some (.int .i64 ((q : Nat) : Int)) ∧ w'.cell? ⟨wr.heap.size, 0, none⟩ = some (.int .u8 x.f0) ∧ w'.cell? ⟨wr.heap.size, 1, none⟩ = some (.int .i64 x.f1) ∧ w'.cell? ⟨wr.heap.size, 2, none⟩ = some (.int .i64 x.f2) ∧ w'.cell? ⟨wr.heap.size, 3, none⟩ = some (.float .f64 x.f3) ∧ w'.cell? ⟨wr.heap.size, 4, none⟩ = some (.slice A6 x.f4.length c6) ∧ w'.cell? ⟨wr.heap.size, 5, none⟩ = some (.int .u8 x.f5) ∧ w'.cell? ⟨wr.heap.size, 6, none⟩ = some (.int .i64 f6) ∧ w'.cell? ⟨wr.heap.size, 7, none⟩ = some (.int .i64 f7)) (ds := [8]) #[false, false, false, false, false, false, false, false, false] (by kernel_rfl) rfl rfl ⟨((blk_cell (blk_drew Bgb.out) 1).trans rfl), ((blk_cell (blk_drew Bp.out) 0).trans rfl), hpm, ((blk_cell (blk_drew Bx.out) 0).trans rfl), ((blk_cell (blk_drew Bx.out) 1).trans rfl), ((blk_cell (blk_drew Bx.out) 2).trans rfl), ((blk_cell (blk_drew Bx.out) 3).trans rfl), ((blk_cell (blk_drew Bx.out) 4).trans rfl), ((blk_cell (blk_drew Bx.out) 5).trans rfl), ((blk_cell (blk_drew Bx.out) 6).trans rfl), ((blk_cell (blk_drew Bx.out) 7).trans rfl)⟩ (fun hHeld => ?_)
              refine pure_ (i := 0) (N := some 66) (v := ?_) (a' := ?_) #[true, false, false, false, false, false, false, false, false] rfl rfl (by kernel_rfl) (fun _ _ _ h => h) (Or.inl ⟨by rfl, ?_⟩) ?_ ?_
              rotate_left
              · intro w'
                go_simp
                with_reducible rfl
              rotate_left
              · simp only [Act.put, List.setIfInBounds_toArray, List.set_cons_zero, List.set_cons_succ, i64_w, i32_w]
                rfl
              refine pure_ (i := 3) (N := some 69) (v := ?_) (a' := ?_) #[true, false, false, true, false, false, false, false, false] rfl rfl (by kernel_rfl) (fun _ _ _ h => h) (Or.inl ⟨by rfl, ?_⟩) ?_ ?_
              rotate_left
              · intro w'
                go_simp
                with_reducible rfl
              rotate_left
              · simp only [Act.put, List.setIfInBounds_toArray, List.set_cons_zero, List.set_cons_succ, i64_w, i32_w]
                rfl
              refine take_ (i := 1) (N := some 67) (v := ?_) (a' := ?_) #[true, true, false, true, false, false, false, false, false] rfl rfl (by kernel_rfl) (fun _ _ _ h => h) (Or.inl ⟨by rfl, ?_⟩) hHeld ?_ ?_
              rotate_left
              · rintro w' ⟨s0, s1, s2, s3, s4, s5, s6, s7, s8, s9, s10⟩
                go_simp
                with_reducible rfl
              rotate_left
              · simp only [Act.put, List.setIfInBounds_toArray, List.set_cons_zero, List.set_cons_succ, i64_w, i32_w]
                rfl
              refine take_ (i := 2) (N := some 68) (v := ?_) (a' := ?_) #[true, true, true, true, false, false, false, false, false] rfl rfl (by kernel_rfl) (fun _ _ _ h => h) (Or.inl ⟨by rfl, ?_⟩) hHeld ?_ ?_
              rotate_left
              · rintro w' ⟨s0, s1, s2, s3, s4, s5, s6, s7, s8, s9, s10⟩
                go_simp
                with_reducible rfl
              rotate_left
              · simp only [Act.put, List.setIfInBounds_toArray, List.set_cons_zero, List.set_cons_succ, i64_w, i32_w]
                rfl
              refine pure_ (i := 4) (N := some 70) (v := ?_) (a' := ?_) #[true, true, true, true, true, false, false, false, false] rfl rfl (by kernel_rfl) (fun _ _ _ h => h) (Or.inl ⟨by rfl, ?_⟩) ?_ ?_
              rotate_left
              · intro w'
                go_simp
                with_reducible rfl
              rotate_left
              · simp only [Act.put, List.setIfInBounds_toArray, List.set_cons_zero, List.set_cons_succ, i64_w, i32_w]
                rfl
              refine take_ (i := 5) (N := some 71) (v := ?_) (a' := ?_) #[true, true, true, true, true, true, false, false, false] rfl rfl (by kernel_rfl) (fun _ _ _ h => h) (Or.inl ⟨by rfl, ?_⟩) hHeld ?_ ?_
              rotate_left
              · rintro w' ⟨s0, s1, s2, s3, s4, s5, s6, s7, s8, s9, s10⟩
                go_simp
                with_reducible rfl
              rotate_left
              · simp only [Act.put, List.setIfInBounds_toArray, List.set_cons_zero, List.set_cons_succ, i64_w, i32_w]
                rfl
              refine take_ (i := 6) (N := some 72) (v := ?_) (a' := ?_) #[true, true, true, true, true, true, true, false, false] rfl rfl (by kernel_rfl) (fun _ _ _ h => h) (Or.inl ⟨by rfl, ?_⟩) hHeld ?_ ?_
              rotate_left
              · rintro w' ⟨s0, s1, s2, s3, s4, s5, s6, s7, s8, s9, s10⟩
                go_simp
                with_reducible rfl
              rotate_left
              · simp only [Act.put, List.setIfInBounds_toArray, List.set_cons_zero, List.set_cons_succ, i64_w, i32_w]
                rfl
              refine pure_ (i := 7) (N := some 73) (v := ?_) (a' := ?_) #[true, true, true, true, true, true, true, true, false] rfl rfl (by kernel_rfl) (fun _ _ _ h => h) (Or.inl ⟨by rfl, ?_⟩) ?_ ?_
              rotate_left
              · intro w'
                go_simp
                with_reducible rfl
              rotate_left
              · simp only [Act.put, List.setIfInBounds_toArray, List.set_cons_zero, List.set_cons_succ, i64_w, i32_w]
                rfl
              refine last_ (i := 8) (N := none) #[true, true, true, true, true, true, true, true, true] rfl rfl (by kernel_rfl) (by decide) (fun K hK => ?_)
              refine skip_ (w1 := wz.drew.setCells gn (q * 8) [.int .u8 x.f0, .int .i64 x.f1, .int .i64 x.f2, .float .f64 x.f3, .slice A6 x.f4.length c6, .int .u8 x.f5, .int .i64 f6, .int .i64 f7]) (by rfl) rfl (store_skip rfl (by rfl) (by rfl) hst) ?_
              refine hK.out _ _ ?_
              clear hK K
              refine done_ (by kernel_rfl) ?_
              
              rw [Int.toNat_natCast, HQE.out, HXM.out, outL_set ns T.pre m (HCV.out m HLT.out) (hT.out.is.nodup (fine_of TF.out) T [0] (by rw [hT.out.root]; exact .root)), ← HXM.out, ← HQE.out] at RS
              obtain ⟨wy, hwy⟩ : ∃ wy, wy = wz.drew.setCells gn (q * 8) [.int .u8 x.f0, .int .i64 x.f1, .int .i64 x.f2, .float .f64 x.f3, .slice A6 x.f4.length c6, .int .u8 x.f5, .int .i64 f6, .int .i64 f7] := ⟨_, rfl⟩
              rw [← hwy]
              have RS1 := Aside0.mk (show Kd.R k65 65 wy w.heap.size (fun k => True ∧ k ≠ wr.heap.size) (.slice (some ⟨gn, 0, none⟩) ns.length ns.length) (outL ns T.pre (m + 1)) by rw [hwy]; exact RS.out.1)
              have RS2 := Aside0.mk (show wz.drew.grownBy wy (some gn) by rw [hwy]; exact RS.out.2)
              clear RS hwy hst hpm hpz hb2 hxz i8 i8'
              have yO := Aside0.mk (Kd.R_mono RS1.out (ok' := fun _ => True) (fun _ _ => trivial))
              have yBgb := Aside0.mk (blk_grown (blk_drew Bgb.out) RS2.out (Kd.R_ne HO.out Bgb.out (by decide)))
              have yBl := Aside0.mk (blk_grown (blk_drew Bl.out) RS2.out (Kd.R_ne HO.out Bl.out (by decide)))
              have yBp := Aside0.mk (blk_grown (blk_drew Bp.out) RS2.out (Kd.R_ne HO.out Bp.out (by decide)))
              have yBge := Aside0.mk (blk_grown (blk_drew Bge.out) RS2.out (Kd.R_ne HO.out Bge.out (by decide)))
              have yBgr := Aside0.mk (blk_grown (blk_drew Bgr.out) RS2.out (Kd.R_ne HO.out Bgr.out (by decide)))
              have yBD := Aside0.mk ((RS2.out.block D (Array.getElem?_eq_some_iff.1 BD.out).1 (fun e_ => by injection e_ with e_; have := GL.out; omega)).trans BD.out)
              have yB := Aside0.mk ((below_drew HB.out).grown RS2.out HB.out.size (fun k e_ => by injection e_ with e_; rw [← e_]; exact GS2.out.2))
              clear HO Bgb Bl Bp Bge Bgr BD HB R6 Bx
              go_wp2
              go_roundg k1
              case measure => have := hk.out; have := HLT.out; omega
              case rel => exact ⟨_, m + 1, rfl, ⟨by have := XN.out; have := HLT.out; have := hlen.out; unfold wrap64; omega⟩, ⟨HLT.out⟩, ⟨by have := hk.out; have := HLT.out; omega⟩, yO, yBgb, yBl, yBp, yBge, yBgr, yBD, yB⟩
            · have hq : innerB x = false := by first | assumption | simpa using (by assumption : ¬ innerB x = true)
              obtain ⟨f6, hf6⟩ : ∃ f6 : Int, f6 = x.f6 := ⟨_, rfl⟩
              obtain ⟨f7, hf7⟩ : ∃ f7 : Int, f7 = x.f7 := ⟨_, rfl⟩
              obtain ⟨wz, hwz⟩ : ∃ wz, wz = wb := ⟨_, rfl⟩
              have HCN := Aside0.mk (show cnN T.pre x = ⟨x.f0, x.f1, x.f2, x.f3, x.f4, x.f5, f6, f7⟩ by unfold cnN; rw [if_neg (by rw [hq]; decide), hf6, hf7])
              have Bx7 := Aside0.mk (show wz.heap[wr.heap.size]? = some (.cells #[.int .u8 x.f0, .int .i64 x.f1, .int .i64 x.f2, .float .f64 x.f3, .slice A6 x.f4.length c6, .int .u8 x.f5, .int .i64 f6, .int .i64 f7] 65 (0, 0)) by rw [hwz, hf6, hf7]; exact Bx.out)
              rw [← hwz] at HO R6 Bgb Bl Bp Bge Bgr BD HB ⊢
              clear Bx hx6
              have Bx := Bx7
              clear Bx7 hf6 hf7 hwz
              have hqlt : T.pre.idxOf m < ns.length := by have := List.idxOf_lt_length_of_mem (HCV.out m HLT.out); omega
              have hpm := plc_cell HCV.out Bl.out z (by have := XN.out; omega) (by have := XN.out; have := HLT.out; omega)
              obtain ⟨q, hq_⟩ : ∃ q : Nat, q = T.pre.idxOf z.toNat := ⟨_, rfl⟩
              rw [← hq_] at hpm
              rw [HZM.out] at hq_
              rw [← hq_] at hqlt
              have hpz := ((blk_cell Bp.out 0).trans rfl : wz.cell? ⟨gp, 0, none⟩ = some (.slice (some ⟨w3.heap.size, 0, none⟩) ns.length ns.length))
              have hb2 := blk2 (w := wz) Bgb.out
              have hxz := blk8 (w := wz) Bx.out
              obtain ⟨c, hcl, hM, hcc, hfz⟩ := Kd.R_elem HO.out zeroN (q : Int) (by omega) (by omega)
              obtain ⟨e_, he_⟩ : ∃ e_, e_ = (outL ns T.pre m).getD (q : Int).toNat zeroN := ⟨_, rfl⟩
              rw [← he_] at hM
              obtain ⟨A9, c9, rfl, _, _⟩ := k65_open (k65.K_of_M hM)
              rw [Int.toNat_natCast] at hcc hfz
              have ex0 : wz.cell? ⟨gn, q * 8, none⟩ = some (.int .u8 e_.f0) := hcc 0 _ rfl
              have ex1 : wz.cell? ⟨gn, q * 8 + 1, none⟩ = some (.int .i64 e_.f1) := hcc 1 _ rfl
              have ex2 : wz.cell? ⟨gn, q * 8 + 2, none⟩ = some (.int .i64 e_.f2) := hcc 2 _ rfl
              have ex3 : wz.cell? ⟨gn, q * 8 + 3, none⟩ = some (.float .f64 e_.f3) := hcc 3 _ rfl
              have ex4 : wz.cell? ⟨gn, q * 8 + 4, none⟩ = some (.slice A9 e_.f4.length c9) := hcc 4 _ rfl
              have ex5 : wz.cell? ⟨gn, q * 8 + 5, none⟩ = some (.int .u8 e_.f5) := hcc 5 _ rfl
              have ex6 : wz.cell? ⟨gn, q * 8 + 6, none⟩ = some (.int .i64 e_.f6) := hcc 6 _ rfl
              have ex7 : wz.cell? ⟨gn, q * 8 + 7, none⟩ = some (.int .i64 e_.f7) := hcc 7 _ rfl
              have fx0 : wz.frozen? ⟨gn, q * 8, none⟩ = false := hfz 0
              have fx1 : wz.frozen? ⟨gn, q * 8 + 1, none⟩ = false := hfz 1
              have fx2 : wz.frozen? ⟨gn, q * 8 + 2, none⟩ = false := hfz 2
              have fx3 : wz.frozen? ⟨gn, q * 8 + 3, none⟩ = false := hfz 3
              have fx4 : wz.frozen? ⟨gn, q * 8 + 4, none⟩ = false := hfz 4
              have fx5 : wz.frozen? ⟨gn, q * 8 + 5, none⟩ = false := hfz 5
              have fx6 : wz.frozen? ⟨gn, q * 8 + 6, none⟩ = false := hfz 6
              have fx7 : wz.frozen? ⟨gn, q * 8 + 7, none⟩ = false := hfz 7
              have HQL := Aside0.mk hqlt
              have HQE := Aside0.mk hq_
              have HCC := Aside0.mk hcc
              have RS := Aside0.mk (Kd.R_seg (c := [.int .u8 e_.f0, .int .i64 e_.f1, .int .i64 e_.f2, .float .f64 e_.f3, .slice A9 e_.f4.length c9, .int .u8 e_.f5, .int .i64 e_.f6, .int .i64 e_.f7]) (seg := [.int .u8 x.f0, .int .i64 x.f1, .int .i64 x.f2, .float .f64 x.f3, .slice A6 x.f4.length c6, .int .u8 x.f5, .int .i64 f6, .int .i64 f7]) (j := 0) (x' := cnN T.pre x) (okp := fun k => k ≠ gn ∧ k ≠ wr.heap.size) (Kd.R_drew HO.out) (q : Int) (by omega) (by omega) rfl (fun j u h => by rw [Int.toNat_natCast]; exact HCC.out j u h) (by show 0 + 8 ≤ 8; omega) (show k65.M wz.drew w.heap.size (fun k => k ≠ gn ∧ k ≠ wr.heap.size) (cnN T.pre x) [.int .u8 x.f0, .int .i64 x.f1, .int .i64 x.f2, .float .f64 x.f3, .slice A6 x.f4.length c6, .int .u8 x.f5, .int .i64 f6, .int .i64 f7] by rw [HCN.out]; exact k65_mkM wz.drew w.heap.size _ ⟨x.f0, x.f1, x.f2, x.f3, x.f4, x.f5, f6, f7⟩ (Kd.R_types (Kd.R_drew R6.out) (blk_drew Bx.out) (by decide))) (fun k hk => ⟨⟨trivial, hk.2⟩, hk.1⟩))
              have i8 := eq_true (show (0 : Int) ≤ (q : Int) by omega)
              have i8' := eq_true (show (q : Int) < (ns.length : Int) by omega)
              have hst := store_row (P := Tryd.prog) (Kd.R_drew HO.out) q hqlt 65 (.agg #[.int .u8 x.f0, .int .i64 x.f1, .int .i64 x.f2, .float .f64 x.f3, .slice A6 x.f4.length c6, .int .u8 x.f5, .int .i64 f6, .int .i64 f7]) [.int .u8 x.f0, .int .i64 x.f1, .int .i64 x.f2, .float .f64 x.f3, .slice A6 x.f4.length c6, .int .u8 x.f5, .int .i64 f6, .int .i64 f7] rfl (by kernel_rfl) (by intro q_ hq__; simp only [List.mem_cons, List.not_mem_nil, or_false] at hq__; rcases hq__ with rfl | rfl | rfl | rfl | rfl | rfl | rfl | rfl <;> rfl) rfl
              clear hcc hfz hM hcl he_ hqlt hq_ ex0 fx0 ex1 fx1 ex2 fx2 ex3 fx3 ex4 fx4 ex5 fx5 ex6 fx6 ex7 fx7
              go_wp2
              refine start_ (n := 9) (S := fun w' => w'.cell? ⟨gb, 1, none⟩ = some (.slice (some ⟨gn, 0, none⟩) ns.length ns.length) ∧ w'.cell? ⟨gp, 0, none⟩ = some (.slice (some ⟨w3.heap.size, 0, none⟩) ns.length ns.length) ∧ w'.cell? ⟨w3.heap.size, z.toNat, none⟩ = some (.int .i64 ((q : Nat) : Int)) ∧ w'.cell? ⟨wr.heap.size, 0, none⟩ = some (.int .u8 x.f0) ∧ w'.cell? ⟨wr.heap.size, 1, none⟩ = some (.int .i64 x.f1) ∧ w'.cell? ⟨wr.heap.size, 2, none⟩ = some (.int .i64 x.f2) ∧ w'.cell? ⟨wr.heap.size, 3, none⟩ = some (.float .f64 x.f3) ∧ w'.cell? ⟨wr.heap.size, 4, none⟩ = some (.slice A6 x.f4.length c6) ∧ w'.cell? ⟨wr.heap.size, 5, none⟩ = some (.int .u8 x.f5) ∧ w'.cell? ⟨wr.heap.size, 6, none⟩ = some (.int .i64 f6) ∧ w'.cell? ⟨wr.heap.size, 7, none⟩ = some (.int .i64 f7)) (ds := [8]) #[false, false, false, false, false, false, false, false, false] (by kernel_rfl) rfl rfl ⟨((blk_cell (blk_drew Bgb.out) 1).trans rfl), ((blk_cell (blk_drew Bp.out) 0).trans rfl), hpm, ((blk_cell (blk_drew Bx.out) 0).trans rfl), ((blk_cell (blk_drew Bx.out) 1).trans rfl), ((blk_cell (blk_drew Bx.out) 2).trans rfl), ((blk_cell (blk_drew Bx.out) 3).trans rfl), ((blk_cell (blk_drew Bx.out) 4).trans rfl), ((blk_cell (blk_drew Bx.out) 5).trans rfl), ((blk_cell (blk_drew Bx.out) 6).trans rfl), ((blk_cell (blk_drew Bx.out) 7).trans rfl)⟩ (fun hHeld => ?_)
              refine pure_ (i := 0) (N := some 66) (v := ?_) (a' := ?_) #[true, false, false, false, false, false, false, false, false] rfl rfl (by kernel_rfl) (fun _ _ _ h => h) (Or.inl ⟨by rfl, ?_⟩) ?_ ?_
              rotate_left
              · intro w'
                go_simp
                with_reducible rfl
              rotate_left
              · simp only [Act.put, List.setIfInBounds_toArray, List.set_cons_zero, List.set_cons_succ, i64_w, i32_w]
                rfl
              refine pure_ (i := 3) (N := some 69) (v := ?_) (a' := ?_) #[true, false, false, true, false, false, false, false, false] rfl rfl (by kernel_rfl) (fun _ _ _ h => h) (Or.inl ⟨by rfl, ?_⟩) ?_ ?_
              rotate_left
              · intro w'
                go_simp
                with_reducible rfl
              rotate_left
              · simp only [Act.put, List.setIfInBounds_toArray, List.set_cons_zero, List.set_cons_succ, i64_w, i32_w]
                rfl
              refine take_ (i := 1) (N := some 67) (v := ?_) (a' := ?_) #[true, true, false, true, false, false, false, false, false] rfl rfl (by kernel_rfl) (fun _ _ _ h => h) (Or.inl ⟨by rfl, ?_⟩) hHeld ?_ ?_
              rotate_left
              · rintro w' ⟨s0, s1, s2, s3, s4, s5, s6, s7, s8, s9, s10⟩
                go_simp
                with_reducible rfl
              rotate_left
              · simp only [Act.put, List.setIfInBounds_toArray, List.set_cons_zero, List.set_cons_succ, i64_w, i32_w]
                rfl
              refine take_ (i := 2) (N := some 68) (v := ?_) (a' := ?_) #[true, true, true, true, false, false, false, false, false] rfl rfl (by kernel_rfl) (fun _ _ _ h => h) (Or.inl ⟨by rfl, ?_⟩) hHeld ?_ ?_
              rotate_left
              · rintro w' ⟨s0, s1, s2, s3, s4, s5, s6, s7, s8, s9, s10⟩
                go_simp
                with_reducible rfl
              rotate_left
              · simp only [Act.put, List.setIfInBounds_toArray, List.set_cons_zero, List.set_cons_succ, i64_w, i32_w]
                rfl
              refine pure_ (i := 4) (N := some 70) (v := ?_) (a' := ?_) #[true, true, true, true, true, false, false, false, false] rfl rfl (by kernel_rfl) (fun _ _ _ h => h) (Or.inl ⟨by rfl, ?_⟩) ?_ ?_
              rotate_left
              · intro w'
                go_simp
                with_reducible rfl
              rotate_left
              · simp only [Act.put, List.setIfInBounds_toArray, List.set_cons_zero, List.set_cons_succ, i64_w, i32_w]
                rfl
              refine take_ (i := 5) (N := some 71) (v := ?_) (a' := ?_) #[true, true, true, true, true, true, false, false, false] rfl rfl (by kernel_rfl) (fun _ _ _ h => h) (Or.inl ⟨by rfl, ?_⟩) hHeld ?_ ?_
              rotate_left
              · rintro w' ⟨s0, s1, s2, s3, s4, s5, s6, s7, s8, s9, s10⟩
                go_simp
                with_reducible rfl
              rotate_left
              · simp only [Act.put, List.setIfInBounds_toArray, List.set_cons_zero, List.set_cons_succ, i64_w, i32_w]
                rfl
              refine take_ (i := 6) (N := some 72) (v := ?_) (a' := ?_) #[true, true, true, true, true, true, true, false, false] rfl rfl (by kernel_rfl) (fun _ _ _ h => h) (Or.inl ⟨by rfl, ?_⟩) hHeld ?_ ?_
              rotate_left
              · rintro w' ⟨s0, s1, s2, s3, s4, s5, s6, s7, s8, s9, s10⟩
                go_simp
                with_reducible rfl
              rotate_left
              · simp only [Act.put, List.setIfInBounds_toArray, List.set_cons_zero, List.set_cons_succ, i64_w, i32_w]
                rfl
              refine pure_ (i := 7) (N := some 73) (v := ?_) (a' := ?_) #[true, true, true, true, true, true, true, true, false] rfl rfl (by kernel_rfl) (fun _ _ _ h => h) (Or.inl ⟨by rfl, ?_⟩) ?_ ?_
              rotate_left
              · intro w'
                go_simp
                with_reducible rfl
              rotate_left
              · simp only [Act.put, List.setIfInBounds_toArray, List.set_cons_zero, List.set_cons_succ, i64_w, i32_w]
                rfl
              refine last_ (i := 8) (N := none) #[true, true, true, true, true, true, true, true, true] rfl rfl (by kernel_rfl) (by decide) (fun K hK => ?_)
              refine skip_ (w1 := wz.drew.setCells gn (q * 8) [.int .u8 x.f0, .int .i64 x.f1, .int .i64 x.f2, .float .f64 x.f3, .slice A6 x.f4.length c6, .int .u8 x.f5, .int .i64 f6, .int .i64 f7]) (by rfl) rfl (store_skip rfl (by rfl) (by rfl) hst) ?_
              refine hK.out _ _ ?_
              clear hK K
              refine done_ (by kernel_rfl) ?_
              
              rw [Int.toNat_natCast, HQE.out, HXM.out, outL_set ns T.pre m (HCV.out m HLT.out) (hT.out.is.nodup (fine_of TF.out) T [0] (by rw [hT.out.root]; exact .root)), ← HXM.out, ← HQE.out] at RS
              obtain ⟨wy, hwy⟩ : ∃ wy, wy = wz.drew.setCells gn (q * 8) [.int .u8 x.f0, .int .i64 x.f1, .int .i64 x.f2, .float .f64 x.f3, .slice A6 x.f4.length c6, .int .u8 x.f5, .int .i64 f6, .int .i64 f7] := ⟨_, rfl⟩
              rw [← hwy]
              have RS1 := Aside0.mk (show Kd.R k65 65 wy w.heap.size (fun k => True ∧ k ≠ wr.heap.size) (.slice (some ⟨gn, 0, none⟩) ns.length ns.length) (outL ns T.pre (m + 1)) by rw [hwy]; exact RS.out.1)
              have RS2 := Aside0.mk (show wz.drew.grownBy wy (some gn) by rw [hwy]; exact RS.out.2)
              clear RS hwy hst hpm hpz hb2 hxz i8 i8'
              have yO := Aside0.mk (Kd.R_mono RS1.out (ok' := fun _ => True) (fun _ _ => trivial))
              have yBgb := Aside0.mk (blk_grown (blk_drew Bgb.out) RS2.out (Kd.R_ne HO.out Bgb.out (by decide)))
              have yBl := Aside0.mk (blk_grown (blk_drew Bl.out) RS2.out (Kd.R_ne HO.out Bl.out (by decide)))
              have yBp := Aside0.mk (blk_grown (blk_drew Bp.out) RS2.out (Kd.R_ne HO.out Bp.out (by decide)))
              have yBge := Aside0.mk (blk_grown (blk_drew Bge.out) RS2.out (Kd.R_ne HO.out Bge.out (by decide)))
              have yBgr := Aside0.mk (blk_grown (blk_drew Bgr.out) RS2.out (Kd.R_ne HO.out Bgr.out (by decide)))
              have yBD := Aside0.mk ((RS2.out.block D (Array.getElem?_eq_some_iff.1 BD.out).1 (fun e_ => by injection e_ with e_; have := GL.out; omega)).trans BD.out)
              have yB := Aside0.mk ((below_drew HB.out).grown RS2.out HB.out.size (fun k e_ => by injection e_ with e_; rw [← e_]; exact GS2.out.2))
              clear HO Bgb Bl Bp Bge Bgr BD HB R6 Bx
              go_wp2
              go_roundg k1
              case measure => have := hk.out; have := HLT.out; omega
              case rel => exact ⟨_, m + 1, rfl, ⟨by have := XN.out; have := HLT.out; have := hlen.out; unfold wrap64; omega⟩, ⟨HLT.out⟩, ⟨by have := hk.out; have := HLT.out; omega⟩, yO, yBgb, yBl, yBp, yBge, yBgr, yBD, yB⟩
end Go.Proofs.YtpeiafamkajedaaDoor.FAll
