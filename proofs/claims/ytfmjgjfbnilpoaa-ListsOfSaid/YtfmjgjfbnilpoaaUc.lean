/-
 lists.Of: the walk; of trees without an error it answers what OfSpec says, of its own memory; else the error alone.
-/
import Derived.Test.YtfmjgjfbnilpoaaZq
import Derived.Test.YtfmjgjfbnilpoaaUd
namespace Go.Proofs.Ytfmjgjfbnilpoaa.FAll
open Go.RowKit Go.Sort Go.Maps Go.Shelf YtfmjgjfbnilpoaaW.PrintWords YtfmjgjfbnilpoaaW.PrintLast YtfmjgjfbnilpoaaW.PrintMore BTree
attribute [local go_sem] fstore_walk
set_option linter.unusedVariables false
set_option linter.unusedSimpArgs false
/-- What is known of the trees' sizes. -/
structure SmallU (ts : List S53) : Prop where
 nodes : ∀ y ∈ ts, y.f1.length ≤ 1759218604441
 cats : ∀ y ∈ ts, ∀ x ∈ y.f1, x.f4.length * 8 ≤ 140737488355328
 bits : ∀ y ∈ ts, ∀ x ∈ y.f1, x.f3 < 2 ^ 64
theorem SmallU.t {ts : List S53} (h : SmallU ts) : SmallT ts := ⟨h.nodes, fun y hy x hx => by have := h.cats y hy x hx; omega⟩
theorem rdN_mem {ns : List S71} {i : Int} (h0 : 0 ≤ i) (h1 : i < (ns.length : Int)) : rd_T71 ns i ∈ ns := by
 unfold rd_T71
 rw [List.getD_eq_getElem?_getD, List.getElem?_eq_getElem (show i.toNat < ns.length by omega)]
 exact List.getElem_mem _
theorem right_feat {y : S71} {n : Int} (h : rightB y n = true) (hk : y.f0 ≠ 1) : 0 ≤ y.f2 ∧ y.f2 < 65536 := by
 unfold rightB restB at h
 rw [if_neg hk] at h
 by_cases e2 : y.f0 = 2
 ·rw [if_pos e2] at h
  simp only [Bool.and_eq_true, decide_eq_true_eq] at h
  exact ⟨h.2.2.2.1, h.2.2.2.2.1⟩
 ·rw [if_neg e2] at h
  by_cases e3 : y.f0 = 3
  ·rw [if_pos e3] at h
   simp only [Bool.and_eq_true, decide_eq_true_eq] at h
   exact ⟨h.2.2.2.1, h.2.2.2.2.1⟩
  ·rw [if_neg e3] at h
   cases h
theorem look_bool {v : Value} {D : DataW Unit} {f : Int} (hv : (v = .pointer none ∧ D.atKey (.int .i64 f) (.lit (.bool false)) = .lit (.bool false)) ∨ (∃ g : Nat, v = .pointer (some ⟨g, 0, none⟩) ∧ D.atKey (.int .i64 f) (.lit (.bool false)) = .lit (.int .i64 (g : Int)))) :
  ∃ b : Bool, (∀ x y, eqGuard .eql 72 x y v (.pointer none) = pure ()) ∧ (∀ W, (binOp .eql 72 v (.pointer none)).run Try.prog W = .ok (.bool b) W) ∧ ((b = true ∧ v = .pointer none ∧ D.atKey (.int .i64 f) (.lit (.bool false)) = .lit (.bool false)) ∨ (b = false ∧ ∃ g : Nat, v = .pointer (some ⟨g, 0, none⟩) ∧ D.atKey (.int .i64 f) (.lit (.bool false)) = .lit (.int .i64 (g : Int)))) := by
 rcases hv with ⟨rfl, h⟩ | ⟨g, rfl, h⟩
 ·exact ⟨true, fun x y => eqGuard_at_pointer .eql _ x y _ _, fun W => run_eql_pointer_nil W 72 none (by kernel_rfl), .inl ⟨rfl, rfl, h⟩⟩
 ·exact ⟨false, fun x y => eqGuard_at_pointer .eql _ x y _ _, fun W => run_eql_pointer_nil W 72 (some ⟨g, 0, none⟩) (by kernel_rfl), .inr ⟨rfl, g, rfl, h⟩⟩
theorem map_not_cells {W : World} {k : TypeId} {R : Value → Option (DataW Unit × List MemPlace)} {b n : Nat} {D : DataW Unit} (h : W.ownsMap Try.prog k R b n D) (cs : Array Value) (t : TypeId) : W.heap[b]? ≠ some (.cells cs t (0, 0)) := by
 obtain ⟨es, clock, hb, _⟩ := h
 rw [hb]
 intro e
 injection e with e
 cases e
theorem map_ne {W : World} {k : TypeId} {R : Value → Option (DataW Unit × List MemPlace)} {b n g : Nat} {D : DataW Unit} {cs : Array Value} {t : TypeId} (h : W.ownsMap Try.prog k R b n D) (hg : W.heap[g]? = some (.cells cs t (0, 0))) : b ≠ g := by
 rintro rfl
 exact map_not_cells h _ _ hg
theorem R_beside {α : Type} {d : Kd α} {e : Nat} {W W' : World} {base b : Nat} {ok : Nat → Prop} {v : Value} {xs : List α} (h : d.R e W base ok v xs) (hg : W.grownBy W' (some b)) (hne : ∀ (cs : Array Value) (t : TypeId), W.heap[b]? ≠ some (.cells cs t (0, 0))) : d.R e W' base ok v xs :=
 Kd.R_mono (Kd.R_grown (Kd.R_bound h) hg (fun k hk e => by
  obtain ⟨_, _, _, q, _, cells, hc⟩ := hk
  rw [Option.some.inj e] at hc
  exact hne _ _ hc)) (fun k hk => hk.1)
theorem infoCut : (Try.prog.info? 56).map (fun i => (i.zero, i.size, i.bytes)) = some (some (.agg #[.float .f64 0, .slice none 0 0, .int .i64 0, .int .i64 0, .int .i64 0]), 5, 56) := by kernel_rfl
theorem cells_ne {W : World} {a b : Nat} {cs cs' : Array Value} {t t' : TypeId} (ha : W.heap[a]? = some (.cells cs t (0, 0))) (hb : W.heap[b]? = some (.cells cs' t' (0, 0))) (h : t ≠ t') : a ≠ b := by
 rintro rfl
 rw [ha] at hb
 injection hb with hb
 injection hb with _ hb
 exact h hb
theorem grown_set (w : World) (g i : Nat) (v : Value) : w.grownBy (w.setCell ⟨g, i, none⟩ v) (some g) :=
 ⟨rfl, rfl, rfl, by rw [World.size_setCell]; exact Nat.le_refl _, fun k _ hk => Below.heap_setCell w ⟨g, i, none⟩ v k (fun e => hk (by rw [e]))⟩
theorem puts_row (X : Nat → Nat → List S56) (g : Nat) (x : S71) (c : S56) (tk tl : Bool) (htk : (x.f0 == 3) = tk) (htl : (x.f5 == 2) = tl) (X1 : Nat → Nat → List S56) (h1 : X1 = upd X g (if tk then 1 else 0) (X g (if tk then 1 else 0) ++ [c])) :
  ∀ i, i < 3 → (if tl then upd X1 g 2 (X1 g 2 ++ [c]) else X1) g i = if inRow x.f2 i (x, c) = true then X g i ++ [c] else X g i := by
 intro i hi
 subst h1
 have hne : (x.f0 != 3) = !tk := by rw [← htk]; rfl
 rcases i with _ | _ | _ | i
 ·cases tk <;> cases tl <;> simp [upd, inRow, hne]
 ·cases tk <;> cases tl <;> simp [upd, inRow, htk]
 ·cases tk <;> cases tl <;> simp [upd, inRow, htl]
 ·omega
theorem puts_other (X : Nat → Nat → List S56) (g : Nat) (c : S56) (tk tl : Bool) (X1 : Nat → Nat → List S56) (h1 : X1 = upd X g (if tk then 1 else 0) (X g (if tk then 1 else 0) ++ [c])) :
  ∀ a i, a ≠ g → (if tl then upd X1 g 2 (X1 g 2 ++ [c]) else X1) a i = X a i := by
 intro a i ha
 subst h1
 cases tl <;> simp [upd, ha]
theorem size_le_of {W : World} {k : TypeId} {R : Value → Option (DataW Unit × List MemPlace)} {b n : Nat} {D : DataW Unit} (h : W.ownsMap Try.prog k R b n D) : Maps.size D ≤ n := by
 obtain ⟨es, clock, _, _, hs, rfl⟩ := h
 simp [Maps.size, length_sorted]
 exact hs
theorem iter_not_cells {W : World} {k : TypeId} {R : Value → Option (DataW Unit × List MemPlace)} {b r n cnt : Nat} {D : DataW Unit} {left : Lit → Bool} (h : W.ranges Try.prog k R b r n D left cnt) (cs : Array Value) (t : TypeId) : W.heap[r]? ≠ some (.cells cs t (0, 0)) := by
 obtain ⟨es, clock, since, seen, c0, _, _, _, _, hr, _⟩ := h
 rw [hr]
 intro e
 injection e with e
 cases e
theorem InD.entry {D : DataW Unit} {G : List (Int × Nat)} (h : InD D G) {x : Int} {q : Option Nat} {y : DataW Unit × List MemPlace} (hv : ptrR (.pointer (q.map fun g => ⟨g, 0, none⟩)) = some y) (hat : ∀ zd, D.atKey (.int .i64 x) zd = y.1) : ∃ g, q = some g ∧ (x, g) ∈ G := by
 cases q with
 | none =>
  have e1 : y = (.lit (.bool false), []) := (Option.some.inj hv).symm
  rw [e1] at hat
  by_cases hex : ∃ p ∈ G, p.1 = x
  ·obtain ⟨p, hp, rfl⟩ := hex
   have h1 := h.at_ p hp (.lit (.bool false))
   rw [hat] at h1
   injection h1 with h1
   cases h1
  ·have h1 := h.out x fun p hp e => hex ⟨p, hp, e⟩
   rw [has_true_of_atKey hat] at h1
   cases h1
 | some g =>
  have e1 : y = (.lit (.int .i64 (g : Int)), []) := (Option.some.inj hv).symm
  rw [e1] at hat
  exact ⟨g, rfl, h.found (hat _)⟩
theorem infoList : (Try.prog.info? 35).map (fun i => (i.zero, i.size, i.bytes)) = some (some (.agg #[.int .i64 0, .slice none 0 0, .slice none 0 0, .slice none 0 0]), 4, 80) := by kernel_rfl
set_option maxHeartbeats 16000000 in
set_option maxRecDepth 100000 in
theorem lists_Of.calls (w : World) (A : Option Addr) (c : Nat) (ts : List S53) (F : Int) (hts : Aside0 (Kd.C k53 w A ts.length ts)) (hsm : SmallU ts) (hf0 : faultV F ts = 0) :
  Calls Try.prog 8 #[.slice A ts.length c, .int .i64 F] w fun e w' => ∃ v ys, e = .returned (.tuple #[v, .int .i64 0]) ∧ OfSpec (evTo ts ts.length) ys ∧ Kd.R k35 35 w' w.heap.size (fun _ => True) v ys ∧ Below w.heap.size w w' := by
 have HB := aS_ (Below.refl w.heap.size w)
 have SM := aS_ hsm
 have GD := aS_ (fault_good hf0)
 have LN := aS_ (show ts.length ≤ 65536 from GD.out.len)
 have FN := aS_ (show ∀ y ∈ ts, TreeFine y.f1 from fun y hy => ((shapeV_spec y (hsm.nodes y hy) (fun x hx => hsm.t.cats y hy x hx)).2 (GD.out.fine y hy)).2)
 have FF := aS_ hf0
 clear hsm hf0
 have hmm := @run_makeMap Try.prog
 go_enter Try.func8, Try.ntmps8
 go_wp2_with (first | (go_at_call 22; refine (lists_fault.calls _ A c ts F ⟨Kd.C_below hts.out (kB0 HB)⟩ SM.out.t).mono ?_; rw [FF.out]; rintro e w3 ⟨rfl, hb⟩; have n0_ := aS_ (below_step (kB0 HB) hb); clear HB; have HB := n0_; clear n0_ hb))
 obtain ⟨bm, hbm⟩ : ∃ bm, bm = w3.heap.size := ⟨_, rfl⟩
 have OW0 := aS_ (show (w3.alloc (.map #[] 0)).ownsMap Try.prog 3 ptrR bm 0 (.map []) by rw [hbm]; exact World.ownsMap_made w3 _ _ _)
 have BG := aS_ (show w.heap.size ≤ bm by rw [hbm]; exact below_size HB.out)
 rw [← hbm]
 have HB1 := aS_ (below_alloc HB.out (.map #[] 0))
 clear hbm hmm HB
 go_loopg [29] (ts.length + 1) (fun kq v29 w' => ∃ (z : Int) (k n : Nat) (D : DataW Unit) (G : List (Int × Nat)) (V : Nat → Nat → Value) (X : Nat → Nat → List S56) (own : Nat → Option (Nat × Nat)), v29 = .int .i64 z ∧ Aside0 (z = k) ∧ Aside0 (k ≤ ts.length) ∧ Aside0 (ts.length - k < kq) ∧ Aside0 (InB w G V X own w') ∧ Aside0 (InD D G) ∧ Aside0 (w'.ownsMap Try.prog 3 ptrR bm n D) ∧ Aside0 (RowsE (evTo ts k) G X) ∧ Aside0 (n ≤ (evTo ts k).length) ∧ Aside0 (Feat (evTo ts k) G))
 case atStart => exact ⟨0, 0, 0, .map [], [], fun _ _ => .slice none 0 0, fun _ _ => [], fun _ => none, rfl, ⟨rfl⟩, ⟨Nat.zero_le _⟩, ⟨by omega⟩, ⟨InB.start w _ _ _ _ HB1.out⟩, ⟨InD.start⟩, OW0, ⟨RowsE.start _⟩, ⟨Nat.zero_le _⟩, ⟨fun p hp => absurd hp List.not_mem_nil⟩⟩
 case round =>
  clear HB1 OW0
  obtain ⟨z, k, n, D, G, V, X, own, rfl, hz, hk, hm, IB, ID, OW, RE, NE, FE⟩ := hrel
  cases gk with
  | zero => exact absurd hm.out (by omega)
  | succ k1 =>
   by_cases hend : k < ts.length
   ·have cnd : decide (z < (ts.length : Int)) = true := decide_eq_true (by have := hz.out; omega)
    have p1' : 0 ≤ z := by have := hz.out; omega
    have p2' : z < (ts.length : Int) := by have := hz.out; omega
    obtain ⟨ad, A1, c1, rfl, e0, e1, l1, g1⟩ := at_T53 hts.out z p1' p2'
    obtain ⟨y, hy⟩ : ∃ y, y = rd_T53 ts z := ⟨_, rfl⟩
    have hy' : y = rd_T53 ts (k : Int) := by rw [hy, hz.out]
    have YM := aS_ (show y ∈ ts by rw [hy']; exact rdT_mem ts k hend)
    rw [← hy] at e0 e1 l1 g1
    have YE := aS_ (show evTo ts (k + 1) = evTo ts k ++ evT k y by rw [evTo_succ, hy'])
    have EL := aS_ (show (evTo ts k).length ≤ 4095 * k from evTo_len GD.out FN.out k (by omega))
    replace e0 := cB_ IB.out.below e0
    replace e1 := cB_ IB.out.below e1
    have L1 := aS_ l1
    have GW := aS_ g1
    have p1 := eq_true p1'
    have p2 := eq_true p2'
    have NL := aS_ hend
    have wz : wrap64 (z + 1) = ((k + 1 : Nat) : Int) := by have := hz.out; have := LN.out; unfold wrap64; omega
    have FY := aS_ (FN.out y YM.out)
    obtain ⟨ks, hks⟩ : ∃ ks, trees_Shape.f ks y.f0 y.f1 = some (0, 0) := by
     obtain ⟨⟨ks, h1⟩, h2⟩ := shapeV_spec y (SM.out.nodes y YM.out) (fun x hx => SM.out.t.cats y YM.out x hx)
     rw [(h2 (GD.out.fine y YM.out)).1] at h1
     exact ⟨ks, h1⟩
    have KS := aS_ hks
    have TV := aS_ (treeV_is FY.out)
    obtain ⟨ms, hms⟩ : ∃ ms, ms = BT.marks (treeV y.f1) 0 := ⟨_, rfl⟩
    have MS := aS_ hms
    have ML := aS_ (show ms.length ≤ 4095 by rw [hms]; exact marks_few FY.out (GD.out.few y YM.out))
    clear hy hy' l1 g1 p1' p2' hend hks hms
    go_upto_region 9 with (first | (go_at_call 23; refine (masks_Marks.calls _ y.f0 A1 c1 y.f1 (treeV y.f1) ks FY.out ⟨Kd.C_below GW.out (below_alloc IB.out.below _)⟩ L1 KS TV ⟨SM.out.nodes y YM.out⟩ (GD.out.few y YM.out)).mono ?_; rw [← MS.out]; rintro e w5 ⟨vm, rfl, hr, hb⟩; obtain ⟨AM, cM, rfl, _, _⟩ := Kd.R_reads hr; have RM := aS_ (Kd.R_lower hr (below_size (below_alloc IB.out.below (.cells #[.int .i64 y.f0, .slice A1 y.f1.length c1] 53)))); have BT_ := aS_ (blk_below (blk_new wr (.cells #[.int .i64 y.f0, .slice A1 y.f1.length c1] 53)) hb); have m1_ := aS_ ((IB.out.step (below_alloc (Below.refl _ _) (.cells #[.int .i64 y.f0, .slice A1 y.f1.length c1] 53))).step hb); have m2_ := aS_ ((OW.out.alloc (.cells #[.int .i64 y.f0, .slice A1 y.f1.length c1] 53)).kept (grown_of_below hb none) (by simp)); clear IB OW; have IB := m1_; have OW := m2_; clear m1_ m2_ hb hr))
    obtain ⟨gt, hgt⟩ : ∃ gt, gt = wr.heap.size := ⟨_, rfl⟩
    rw [← hgt] at BT_ ⊢
    clear hgt e0 e1
    go_wp2
    go_loopg [41] (ms.length + 1) (fun kq v41 w' => ∃ (zj : Int) (j n : Nat) (D : DataW Unit) (G : List (Int × Nat)) (V : Nat → Nat → Value) (X : Nat → Nat → List S56) (own : Nat → Option (Nat × Nat)), v41 = .int .i64 zj ∧ Aside0 (zj = j) ∧ Aside0 (j ≤ ms.length) ∧ Aside0 (ms.length - j < kq) ∧ Aside0 (InB w G V X own w') ∧ Aside0 (InD D G) ∧ Aside0 (w'.ownsMap Try.prog 3 ptrR bm n D) ∧ Aside0 (RowsE (evTo ts k ++ (ms.take j).map (evM k y.f1)) G X) ∧ Aside0 (n ≤ (evTo ts k).length + j) ∧ Aside0 (Kd.R k58 58 w' w.heap.size (fun _ => True) (.slice AM ms.length cM) ms) ∧ Aside0 (w'.heap[gt]? = some (.cells #[.int .i64 y.f0, .slice A1 y.f1.length c1] 53 (0, 0))) ∧ Aside0 (Feat (evTo ts k ++ (ms.take j).map (evM k y.f1)) G))
    case atStart => exact ⟨0, 0, n, D, G, V, X, own, rfl, ⟨rfl⟩, ⟨Nat.zero_le _⟩, ⟨by omega⟩, IB, ID, OW, ⟨by rw [List.take_zero, List.map_nil, List.append_nil]; exact RE.out⟩, ⟨NE.out⟩, RM, BT_, ⟨by rw [List.take_zero, List.map_nil, List.append_nil]; exact FE.out⟩⟩
    case round =>
     clear IB ID OW RE NE RM BT_ FE
     obtain ⟨zj, j, n, D, G, V, X, own, rfl, hj, hjl, hm2, IB, ID, OW, RE, NE, RM, BT_, FE⟩ := hrel
     cases gk with
     | zero => exact absurd hm2.out (by omega)
     | succ k2 =>
      by_cases hend : j < ms.length
      ·have cnd2 : decide (zj < (ms.length : Int)) = true := decide_eq_true (by have := hj.out; omega)
       have q1' : 0 ≤ zj := by have := hj.out; omega
       have q2' : zj < (ms.length : Int) := by have := hj.out; omega
       obtain ⟨am, rfl, m0, m1, m2⟩ := at_T58 (Kd.R_reads' RM.out).2.2 zj q1' q2'
       obtain ⟨m, hmm⟩ : ∃ m, m = rd_T58 ms zj := ⟨_, rfl⟩
       have hmj : m = ms[j] := by
        rw [hmm, hj.out]
        unfold rd_T58
        rw [Int.toNat_natCast, List.getD_eq_getElem?_getD, List.getElem?_eq_getElem hend]
        rfl
       rw [← hmm] at m0 m1 m2
       have MN := aS_ (marks_node (ns := y.f1) (treeV y.f1) 0 TV.out.is m (by rw [← MS.out, hmj]; exact List.getElem_mem hend))
       have r1' := MN.out.1
       have r2' := MN.out.2.1
       obtain ⟨an, A4, c4, rfl, f0, f1, f2, f3, f4, f5, f6, f7, l4, g4⟩ := at_T71 GW.out m.f0 r1' r2'
       obtain ⟨x, hx⟩ : ∃ x, x = rd_T71 y.f1 m.f0 := ⟨_, rfl⟩
       rw [← hx] at f0 f1 f2 f3 f4 f5 f6 f7 l4 g4
       have XM := aS_ (show x ∈ y.f1 by rw [hx]; exact rdN_mem r1' r2')
       have EVJ := aS_ (show (ms.take (j + 1)).map (evM k y.f1) = (ms.take j).map (evM k y.f1) ++ [(x, (⟨x.f3, x.f4, (k : Int), m.f1, m.f2⟩ : S56))] by
        rw [List.take_succ_eq_append_getElem hend, List.map_append, ← hmj]
        simp only [List.map_cons, List.map_nil, evM, ← hx])
       replace f0 := cB_ IB.out.below f0
       replace f1 := cB_ IB.out.below f1
       replace f2 := cB_ IB.out.below f2
       replace f3 := cB_ IB.out.below f3
       replace f4 := cB_ IB.out.below f4
       replace f5 := cB_ IB.out.below f5
       replace f6 := cB_ IB.out.below f6
       replace f7 := cB_ IB.out.below f7
       have F0 := fun o => (cB_ (below_alloc (Below.refl wr.heap.size wr) o) f0)
       have F1 := fun o => (cB_ (below_alloc (Below.refl wr.heap.size wr) o) f1)
       have F2 := fun o => (cB_ (below_alloc (Below.refl wr.heap.size wr) o) f2)
       have F3 := fun o => (cB_ (below_alloc (Below.refl wr.heap.size wr) o) f3)
       have F4 := fun o => (cB_ (below_alloc (Below.refl wr.heap.size wr) o) f4)
       have F5 := fun o => (cB_ (below_alloc (Below.refl wr.heap.size wr) o) f5)
       have F6 := fun o => (cB_ (below_alloc (Below.refl wr.heap.size wr) o) f6)
       have F7 := fun o => (cB_ (below_alloc (Below.refl wr.heap.size wr) o) f7)
       have hT := fun o => blk2 (w := wr.alloc o) (blk_alloc BT_.out o)
       have q1 := eq_true q1'
       have q2 := eq_true q2'
       have r1 := eq_true r1'
       have r2 := eq_true r2'
       have L4 := aS_ l4
       have G4 := aS_ g4
       have KX := aS_ (show x.f0 = 2 ∨ x.f0 = 3 by
        have h_ := MN.out.2.2
        unfold innN at h_
        rw [Int.toNat_of_nonneg r1', ← hx] at h_
        exact inner_kind h_)
       have HKEY := aS_ (show keyOf Try.prog 3 (.int .i64 x.f2) = some (.int .i64 x.f2) by
        refine keyOf_int_mk Try.underlying3 ?_
        have h_ := FY.out.fit m.f0.toNat (by omega)
        rw [Int.toNat_of_nonneg r1', ← hx] at h_
        have h2_ := right_feat h_ (by have := KX.out; omega)
        simp [Lit.wf, IntKind.min, IntKind.max, IntKind.signed, IntKind.bits]
        omega)
       have JL := aS_ hend
       have wj : wrap64 (zj + 1) = ((j + 1 : Nat) : Int) := by have := hj.out; have := ML.out; unfold wrap64; omega
       clear hmm hmj hx q1' q2' r1' r2' l4 g4 hend
       go_upto_region 13 with (fail)
       obtain ⟨gn, hgn⟩ : ∃ gn, gn = wr.heap.size + 1 := ⟨_, rfl⟩
       obtain ⟨gm, hgm⟩ : ∃ gm, gm = wr.heap.size := ⟨_, rfl⟩
       obtain ⟨W1, hW1⟩ : ∃ W1, W1 = (wr.alloc (.cells #[.int .i64 m.f0, .int .i64 m.f1, .int .i64 m.f2] 58)).alloc (.cells #[.int .u8 x.f0, .int .i64 x.f1, .int .i64 x.f2, .float .f64 x.f3, .slice A4 x.f4.length c4, .int .u8 x.f5, .int .i64 x.f6, .int .i64 x.f7] 71) := ⟨_, rfl⟩
       rw [← hW1, ← hgn, ← hgm]
       have b1 : Below wr.heap.size wr W1 := by rw [hW1]; exact below_alloc (below_alloc (Below.refl _ _) _) _
       have BM := aS_ (show W1.heap[gm]? = some (.cells #[.int .i64 m.f0, .int .i64 m.f1, .int .i64 m.f2] 58 (0, 0)) by rw [hW1, hgm]; exact blk_alloc (blk_new wr _) _)
       have BN := aS_ (show W1.heap[gn]? = some (.cells #[.int .u8 x.f0, .int .i64 x.f1, .int .i64 x.f2, .float .f64 x.f3, .slice A4 x.f4.length c4, .int .u8 x.f5, .int .i64 x.f6, .int .i64 x.f7] 71 (0, 0)) by
        have h_ := blk_new (wr.alloc (.cells #[.int .i64 m.f0, .int .i64 m.f1, .int .i64 m.f2] 58)) (.cells #[.int .u8 x.f0, .int .i64 x.f1, .int .i64 x.f2, .float .f64 x.f3, .slice A4 x.f4.length c4, .int .u8 x.f5, .int .i64 x.f6, .int .i64 x.f7] 71)
        rw [World.size_alloc] at h_
        rw [hW1, hgn]
        exact h_)
       have IB1 := aS_ (IB.out.step b1)
       have OW1 := aS_ (OW.out.kept (grown_of_below b1 none) (by simp))
       have RM1 := aS_ (Kd.R_below RM.out b1)
       have BT1 := aS_ (blk_below BT_.out b1)
       have hn1 := blk8 BN.out
       clear IB OW RM BT_ F0 F1 F2 F3 F4 F5 F6 F7 hT hW1 hgn hgm b1 f0 f1 f2 f3 f4 f5 f6 f7 m0 m1 m2
       go_upto_if 56 with (first | (at_lookup; refine wpList_lookup_box _ rfl _ _ rfl bm n D rfl OW1.out x.f2 rfl HKEY.out ?_; intro v hv; obtain ⟨bb, ev1, ev2, BV⟩ := look_bool hv; have HV := aS_ BV; clear hv BV))
       go_cut [15] from 42 to 114 (fun s_ wc => ∃ (g n : Nat) (D : DataW Unit) (G : List (Int × Nat)) (V : Nat → Nat → Value) (X : Nat → Nat → List S56) (own : Nat → Option (Nat × Nat)), s_ = .pointer (some ⟨g, 0, none⟩) ∧ Aside0 ((x.f2, g) ∈ G) ∧ Aside0 (InB w G V X own wc) ∧ Aside0 (InD D G) ∧ Aside0 (wc.ownsMap Try.prog 3 ptrR bm n D) ∧ Aside0 (RowsE (evTo ts k ++ (ms.take j).map (evM k y.f1)) G X) ∧ Aside0 (n ≤ (evTo ts k).length + (j + 1)) ∧ Aside0 (Kd.R k58 58 wc w.heap.size (fun _ => True) (.slice (some am) ms.length cM) ms) ∧ Aside0 (wc.heap[gt]? = some (.cells #[.int .i64 y.f0, .slice (some an) y.f1.length c1] 53 (0, 0))) ∧ Aside0 (wc.heap[gm]? = some (.cells #[.int .i64 m.f0, .int .i64 m.f1, .int .i64 m.f2] 58 (0, 0))) ∧ Aside0 (wc.heap[gn]? = some (.cells #[.int .u8 x.f0, .int .i64 x.f1, .int .i64 x.f2, .float .f64 x.f3, .slice A4 x.f4.length c4, .int .u8 x.f5, .int .i64 x.f6, .int .i64 x.f7] 71 (0, 0))) ∧ Aside0 (Feat1 x.f2 (evTo ts k ++ (ms.take j).map (evM k y.f1)) G))
       case first =>
        rcases HV.out with ⟨rfl, rfl, hat⟩ | ⟨rfl, g, rfl, hat⟩
        ·have MI := aS_ (ID.out.missed hat)
         clear hat HV
         have hna := fun o => blk8 (w := W1.alloc o) (blk_alloc BN.out o)
         go_wp2_with (first | (at_mapUpdate; refine wpList_mapUpdate_own _ rfl _ _ _ 66 rfl 3 72 lawI Try.underlying66 ptrR bm n D rfl (OW1.out.alloc _) (by have := NE.out; have := EL.out; have := JL.out; have := ML.out; have := LN.out; have := NL.out; unfold maxLen; omega) _ _ (.int .i64 x.f2) rfl rfl HKEY.out (.lit (.int .i64 (W1.heap.size : Int))) [] rfl ?_; intro w2 hown2 hg2; have hnc := map_not_cells (OW1.out.alloc (.cells #[.int .i64 x.f2, .slice none 0 0, .slice none 0 0, .slice none 0 0] 35)); have IBn := IB1.out.new x.f2 MI.out; have HBn := Below.grown IBn.below hg2 (below_size IBn.below) (fun q hq => by injection hq with hq; rw [← hq]; exact BG.out); have IB2 := aS_ (IBn.beside hg2 HBn hnc); have RM2 := aS_ (R_beside (Kd.R_alloc RM1.out _) hg2 hnc); have BT2 := aS_ (blk_grown (blk_alloc BT1.out _) hg2 (fun e => hnc _ _ ((Option.some.inj e) ▸ blk_alloc BT1.out _))); have BM2 := aS_ (blk_grown (blk_alloc BM.out _) hg2 (fun e => hnc _ _ ((Option.some.inj e) ▸ blk_alloc BM.out _))); have BN2 := aS_ (blk_grown (blk_alloc BN.out _) hg2 (fun e => hnc _ _ ((Option.some.inj e) ▸ blk_alloc BN.out _))); have OW2 := aS_ hown2; clear hown2 hg2 hnc IBn HBn))
         go_meet
         exact ⟨_, n + 1, _, _, _, _, _, rfl, ⟨by simp⟩, IB2, ⟨ID.out.put x.f2 _ MI.out⟩, OW2, ⟨RE.out.new x.f2 _ MI.out (fun p hp => Nat.ne_of_lt (blk_lt (IB1.out.box p hp)))⟩, ⟨by have := NE.out; omega⟩, RM2, BT2, BM2, BN2, ⟨fun p hp => by rcases List.mem_append.1 hp with h_ | h_; exact .inr (FE.out p h_); exact .inl (by rw [List.mem_singleton.1 h_])⟩⟩
        ·go_wp2
         go_meet
         exact ⟨g, n, D, G, V, X, own, rfl, ⟨ID.out.found hat⟩, IB1, ID, OW1, RE, ⟨by have := NE.out; omega⟩, RM1, BT1, BM, BN, ⟨fun p hp => .inr (FE.out p hp)⟩⟩
       case rest =>
        clear ev1 ev2 HV IB1 ID OW1 RE NE RM1 BT1 BM BN hn1 FE
        obtain ⟨g, n, D, G, V, X, own, rfl, HP, IB, ID, OW, RE, NE, RM, BT_, BM, BN, FE⟩ := hcut
        have hm1 := blk3 BM.out
        have hn1 := blk8 BN.out
        go_upto_region 18 with (fail)
        obtain ⟨gc, hgc⟩ : ∃ gc, gc = wc.heap.size := ⟨_, rfl⟩
        obtain ⟨W2, hW2⟩ : ∃ W2, W2 = wc.alloc (.cells #[.float .f64 x.f3, .slice A4 x.f4.length c4, .int .i64 z, .int .i64 m.f1, .int .i64 m.f2] 56) := ⟨_, rfl⟩
        rw [← hW2, ← hgc]
        have b1 : Below wc.heap.size wc W2 := by rw [hW2]; exact below_alloc (Below.refl _ _) _
        have BC := aS_ (show W2.heap[gc]? = some (.cells #[.float .f64 x.f3, .slice A4 x.f4.length c4, .int .i64 z, .int .i64 m.f1, .int .i64 m.f2] 56 (0, 0)) by rw [hW2, hgc]; exact blk_new wc _)
        have TC := aS_ (show reown own wc.heap.size (0, 5) gc = some (0, 5) from retag_new (by rw [hgc]; exact Nat.le_refl _))
        have IB2 := aS_ ((IB.out.retag (0, 5)).step b1)
        have OW2 := aS_ (OW.out.kept (grown_of_below b1 none) (by simp))
        have RM2 := aS_ (Kd.R_below RM.out b1)
        have BT2 := aS_ (blk_below BT_.out b1)
        have BN2 := aS_ (blk_below BN.out b1)
        clear IB OW RM BT_ BM BN hm1 hn1 hW2 hgc b1
        obtain ⟨own2, ho2⟩ : ∃ own2, own2 = reown own wc.heap.size (0, 5) := ⟨_, rfl⟩
        rw [← ho2] at TC IB2
        clear ho2
        obtain ⟨tk, htk⟩ : ∃ tk : Bool, (x.f0 == 3) = tk := ⟨_, rfl⟩
        have TK := aS_ htk
        have XL := aS_ (show ∀ i, i < 3 → (X g i).length ≤ (evTo ts k).length + j from fun i hi => by
         have h1_ := RE.out.rows (x.f2, g) HP.out i hi
         have h2_ := rowOf_len (evTo ts k ++ (ms.take j).map (evM k y.f1)) x.f2 i
         rw [← h1_, List.length_append, List.length_map, List.length_take] at h2_
         have h3_ : min j ms.length ≤ j := Nat.min_le_left _ _
         show (X (x.f2, g).2 i).length ≤ _
         omega)
        have hn2 := blk8 BN2.out
        have hc2 := blk5 BC.out
        go_upto_if 77 with (fail)
        go_cut [15] from 42 to 114 (fun s_ wc => ∃ (V' : Nat → Nat → Value) (X' : Nat → Nat → List S56) (own : Nat → Option (Nat × Nat)), s_ = .pointer (some ⟨g, 0, none⟩) ∧ Aside0 (InB w G V' X' own wc) ∧ Aside0 (X' = upd X g (if tk then 1 else 0) (X g (if tk then 1 else 0) ++ [(⟨x.f3, x.f4, (k : Int), m.f1, m.f2⟩ : S56)])) ∧ Aside0 (wc.ownsMap Try.prog 3 ptrR bm n D) ∧ Aside0 (Kd.R k58 58 wc w.heap.size (fun _ => True) (.slice (some am) ms.length cM) ms) ∧ Aside0 (wc.heap[gt]? = some (.cells #[.int .i64 y.f0, .slice (some an) y.f1.length c1] 53 (0, 0))) ∧ Aside0 (wc.heap[gn]? = some (.cells #[.int .u8 x.f0, .int .i64 x.f1, .int .i64 x.f2, .float .f64 x.f3, .slice A4 x.f4.length c4, .int .u8 x.f5, .int .i64 x.f6, .int .i64 x.f7] 71 (0, 0))) ∧ Aside0 (wc.heap[gc]? = some (.cells #[.float .f64 x.f3, .slice A4 x.f4.length c4, .int .i64 z, .int .i64 m.f1, .int .i64 m.f2] 56 (0, 0))) ∧ Aside0 (own gc = some (0, 5)))
        case first =>
         have IB := IB2
         have OW := OW2
         have RM := RM2
         have BT_ := BT2
         have BN := BN2
         clear IB2 OW2 RM2 BT2 BN2
         obtain ⟨own, ho⟩ : ∃ own, own = own2 := ⟨_, rfl⟩
         rw [← ho] at IB TC
         clear ho
         clear hc2
         cases tk
         ·have IBd := aS_ (IB.out.step (below_drew (Below.refl _ _)))
          have OWd := aS_ (OW.out.drew)
          have RMd := aS_ (Kd.R_drew RM.out)
          have BTd := aS_ (blk_drew BT_.out)
          have BNd := aS_ (blk_drew BN.out)
          have BCd := aS_ (blk_drew BC.out)
          have hb2 := blk4 (show W2.drew.heap[g]? = some (.cells #[.int .i64 x.f2, V g 0, V g 1, V g 2] 35 (0, 0)) from IBd.out.box (x.f2, g) HP.out)
          have hc2 := blk5 BCd.out
          clear IB OW RM BT_ BN BC
          go_wp2
          refine start_ (n := 12) (S := fun w' => w'.cell? ⟨g, 1, none⟩ = some (V g 0) ∧ w'.cell? ⟨gc, 0, none⟩ = some (.float .f64 x.f3) ∧ w'.cell? ⟨gc, 1, none⟩ = some (.slice A4 x.f4.length c4) ∧ w'.cell? ⟨gc, 2, none⟩ = some (.int .i64 z) ∧ w'.cell? ⟨gc, 3, none⟩ = some (.int .i64 m.f1) ∧ w'.cell? ⟨gc, 4, none⟩ = some (.int .i64 m.f2)) (ds := [8, 11]) #[false, false, false, false, false, false, false, false, false, false, false, false] (by kernel_rfl) rfl rfl ⟨hb2.2.1.1, hc2.1.1, hc2.2.1.1, hc2.2.2.1.1, hc2.2.2.2.1.1, hc2.2.2.2.2.1⟩ (fun hHeld => ?_)
          refine pq_ (v := ?_) (b := ?_) (m := ?_) 0 (some 89) ?_
          refine pq_ (v := ?_) (b := ?_) (m := ?_) 1 (some 90) ?_
          refine pq_ (v := ?_) (b := ?_) (m := ?_) 2 (some 91) ?_
          refine pq_ (v := ?_) (b := ?_) (m := ?_) 3 (some 92) ?_
          refine tq_ (v := ?_) (b := ?_) (m := ?_) 4 (some 93) hHeld ?_
          refine tq_ (v := ?_) (b := ?_) (m := ?_) 5 (some 94) hHeld ?_
          refine oq_ (m := ?_) 6 (some 95) fun K hK => ?_
          refine goes_ Try.func24 (by kernel_rfl) rfl #[.agg #[.float .f64 x.f3, .slice A4 x.f4.length c4, .int .i64 z, .int .i64 m.f1, .int .i64 m.f2]] (by rfl) rfl rfl (by simp only [List.map_toArray, List.map_cons, List.map_nil]; rfl) ?_
          with_reducible refine (lists_copied.calls _ x.f3 A4 c4 x.f4 z m.f1 m.f2 ⟨Kd.C_below G4.out IBd.out.below⟩ ⟨SM.out.cats y YM.out x XM.out⟩).mono ?_
          rintro e wB ⟨vc, rfl, RC, hbq⟩
          refine ⟨_, rfl, ?_⟩
          obtain ⟨Ac, cc, rfl, _, _⟩ := Kd.R_reads RC
          have IBB := aS_ ((IBd.out.retag (g, 0)).step hbq)
          have LT := aS_ (fun b (h : (V g 0).ownBlock = some b) => Kd.R_lt (IBd.out.row (x.f2, g) HP.out 0 (by decide)) b h)
          have TB := aS_ ((retag_old (own := own) (t := (g, 0)) (blk_lt BCd.out)).trans TC.out)
          have OWB := aS_ (OWd.out.kept (grown_of_below hbq none) (by simp))
          have RMB := aS_ (Kd.R_below RMd.out hbq)
          have BTB := aS_ (blk_below BTd.out hbq)
          have BNB := aS_ (blk_below BNd.out hbq)
          have BCB := aS_ (blk_below BCd.out hbq)
          have RCC := aS_ (Kd.R_mono (ok' := fun q => W2.drew.heap.size ≤ q) (Kd.R_bound RC) (fun q hq => hq.2.1))
          have WB := aS_ hbq.size
          refine hK.out _ _ ⟨(cB_ hbq hHeld.1), (cB_ hbq hHeld.2.1), (cB_ hbq hHeld.2.2.1), (cB_ hbq hHeld.2.2.2.1), (cB_ hbq hHeld.2.2.2.2.1), (cB_ hbq hHeld.2.2.2.2.2)⟩ (fun hHeld => ?_)
          clear hK K
          refine nq_ (b := ?_) (some 95) ?_
          refine oq_ (m := ?_) 7 (some 96) fun K hK => ?_
          refine vq_ (v := ?_) (w1 := ?_) ?_
          refine hK.out _ _ ⟨(cB_ (below_alloc (Below.refl _ _) _) hHeld.1), (cB_ (below_alloc (Below.refl _ _) _) hHeld.2.1), (cB_ (below_alloc (Below.refl _ _) _) hHeld.2.2.1), (cB_ (below_alloc (Below.refl _ _) _) hHeld.2.2.2.1), (cB_ (below_alloc (Below.refl _ _) _) hHeld.2.2.2.2.1), (cB_ (below_alloc (Below.refl _ _) _) hHeld.2.2.2.2.2)⟩ (fun hHeld => ?_)
          clear hK K
          refine nq_ (b := ?_) (some 96) ?_
          refine lq_ (m := ?_) 8 (some 97) fun K hK => ?_
          refine Kd.R_append_step k56 (w0 := w) w.heap.size (by rfl) (.tmp 93) (.tmp 96) 33 56 (.agg #[.float .f64 0, .slice none 0 0, .int .i64 0, .int .i64 0, .int .i64 0]) 56 rfl Try.underlying33 infoCut rfl (by decide) (by omega) (V g 0) (X g 0) (⟨x.f3, x.f4, (k : Int), m.f1, m.f2⟩ : S56) [.float .f64 x.f3, .slice Ac x.f4.length cc, .int .i64 z, .int .i64 m.f1, .int .i64 m.f2] (fun q => reown own W2.drew.heap.size (g, 0) q = some (g, 0)) (fun q => W2.drew.heap.size ≤ q) rfl rfl ?aP (fun q hq => ⟨retag_new hq, fun e => absurd (LT.out q e.symm) (Nat.not_lt.2 hq)⟩) (fun q hq => retag_new (Nat.le_trans WB.out hq)) (IBB.out.row (x.f2, g) HP.out 0 (by decide)) IBB.out.below (below_size IBB.out.below) ?aL ?_
          case aP => rw [hz.out]; exact k56_mkM _ _ _ (⟨x.f3, x.f4, (k : Int), m.f1, m.f2⟩ : S56) (Kd.R_lower RCC.out (below_size IBd.out.below))
          case aL => have := XL.out 0 (by decide); have := EL.out; have := JL.out; have := ML.out; have := LN.out; have := NL.out; omega
          intro v4 w4 R4 hb4 hg4 hat4
          obtain ⟨g4, cap4, rfl, _, _, _⟩ := Kd.R_form R4 (by simp)
          obtain ⟨n4, hn4⟩ : ∃ n4, n4 = (X g 0 ++ [(⟨x.f3, x.f4, (k : Int), m.f1, m.f2⟩ : S56)]).length := ⟨_, rfl⟩
          rw [← hn4] at R4 ⊢
          have hbx := blk_grown (IBB.out.box (x.f2, g) HP.out) hg4 (Kd.R_ne (IBB.out.row (x.f2, g) HP.out 0 (by decide)) (IBB.out.box (x.f2, g) HP.out) (by decide))
          have hx4 := blk4 (show w4.heap[g]? = some (.cells #[.int .i64 x.f2, V g 0, V g 1, V g 2] 35 (0, 0)) from hbx)
          have I4 := aS_ (IBB.out.push HP.out (i := 0) (by decide) R4 hg4 hb4)
          have hty := Kd.R_typed (IBB.out.row (x.f2, g) HP.out 0 (by decide))
          have om_ := OWB.out.kept hg4 (fun e => by obtain ⟨cs_, h_⟩ := hty bm e.symm; exact map_not_cells OWB.out _ _ h_)
          have NG := map_ne om_ hbx
          have O4 := aS_ (om_.kept (grown_set _ g 1 (.slice (some ⟨g4, 0, none⟩) n4 cap4)) (fun e => NG (Option.some.inj e)))
          have RM4 := aS_ (Kd.R_mono (ok' := fun _ => True) (Kd.R_far (p := ⟨g, 1, none⟩) (Kd.R_types (Kd.R_over' RMB.out hty (by decide) hg4) hbx (by decide)) (fun _ hk => hk.2) (.slice (some ⟨g4, 0, none⟩) n4 cap4)) (fun _ _ => trivial))
          have BT_4 := blk_grown BTB.out hg4 (Kd.R_ne (IBB.out.row (x.f2, g) HP.out 0 (by decide)) BTB.out (by decide))
          have BT4 := aS_ (blk_far BT_4 (p := ⟨g, 1, none⟩) (cells_ne BT_4 hbx (by decide)) (.slice (some ⟨g4, 0, none⟩) n4 cap4))
          have BN_4 := blk_grown BNB.out hg4 (Kd.R_ne (IBB.out.row (x.f2, g) HP.out 0 (by decide)) BNB.out (by decide))
          have BN4 := aS_ (blk_far BN_4 (p := ⟨g, 1, none⟩) (cells_ne BN_4 hbx (by decide)) (.slice (some ⟨g4, 0, none⟩) n4 cap4))
          have BC_4 := blk_grown BCB.out hg4 (fun e => by have h_ : reown own W2.drew.heap.size (g, 0) gc = some (g, 0) := (IBB.out.row (x.f2, g) HP.out 0 (by decide)).1 gc e.symm; rw [TB.out] at h_; injection h_ with h_; injection h_ with _ h_; exact absurd h_ (by decide))
          have BC4 := aS_ (blk_far BC_4 (p := ⟨g, 1, none⟩) (cells_ne BC_4 hbx (by decide)) (.slice (some ⟨g4, 0, none⟩) n4 cap4))
          clear R4 hb4 hg4 hat4 hn4 hbx hty NG om_ BT_4 BN_4 BC_4
          refine hK.out _ _ ?_
          clear hK K
          refine nq_ (b := ?_) (some 97) ?_
          refine pq_ (v := ?_) (b := ?_) (m := ?_) 9 (some 98) ?_
          refine pq_ (v := ?_) (b := ?_) (m := ?_) 10 (some 99) ?_
          refine lq_ (m := ?_) 11 none fun K hK => ?_
          refine skip_ (w1 := ?_) (by rfl) rfl ?_ ?_
          rotate_left
          ·go_simp
           rfl
          refine hK.out _ _ ?_
          clear hK K
          refine done_ (by kernel_rfl) ?_
          go_wp2
          go_meet
          exact ⟨_, _, _, rfl, I4, ⟨rfl⟩, O4, RM4, BT4, BN4, BC4, TB⟩
         ·have IBd := aS_ (IB.out.step (below_drew (Below.refl _ _)))
          have OWd := aS_ (OW.out.drew)
          have RMd := aS_ (Kd.R_drew RM.out)
          have BTd := aS_ (blk_drew BT_.out)
          have BNd := aS_ (blk_drew BN.out)
          have BCd := aS_ (blk_drew BC.out)
          have hb2 := blk4 (show W2.drew.heap[g]? = some (.cells #[.int .i64 x.f2, V g 0, V g 1, V g 2] 35 (0, 0)) from IBd.out.box (x.f2, g) HP.out)
          have hc2 := blk5 BCd.out
          clear IB OW RM BT_ BN BC
          go_wp2
          refine start_ (n := 12) (S := fun w' => w'.cell? ⟨g, 2, none⟩ = some (V g 1) ∧ w'.cell? ⟨gc, 0, none⟩ = some (.float .f64 x.f3) ∧ w'.cell? ⟨gc, 1, none⟩ = some (.slice A4 x.f4.length c4) ∧ w'.cell? ⟨gc, 2, none⟩ = some (.int .i64 z) ∧ w'.cell? ⟨gc, 3, none⟩ = some (.int .i64 m.f1) ∧ w'.cell? ⟨gc, 4, none⟩ = some (.int .i64 m.f2)) (ds := [8, 11]) #[false, false, false, false, false, false, false, false, false, false, false, false] (by kernel_rfl) rfl rfl ⟨hb2.2.2.1.1, hc2.1.1, hc2.2.1.1, hc2.2.2.1.1, hc2.2.2.2.1.1, hc2.2.2.2.2.1⟩ (fun hHeld => ?_)
          refine pq_ (v := ?_) (b := ?_) (m := ?_) 0 (some 78) ?_
          refine pq_ (v := ?_) (b := ?_) (m := ?_) 1 (some 79) ?_
          refine pq_ (v := ?_) (b := ?_) (m := ?_) 2 (some 80) ?_
          refine pq_ (v := ?_) (b := ?_) (m := ?_) 3 (some 81) ?_
          refine tq_ (v := ?_) (b := ?_) (m := ?_) 4 (some 82) hHeld ?_
          refine tq_ (v := ?_) (b := ?_) (m := ?_) 5 (some 83) hHeld ?_
          refine oq_ (m := ?_) 6 (some 84) fun K hK => ?_
          refine goes_ Try.func24 (by kernel_rfl) rfl #[.agg #[.float .f64 x.f3, .slice A4 x.f4.length c4, .int .i64 z, .int .i64 m.f1, .int .i64 m.f2]] (by rfl) rfl rfl (by simp only [List.map_toArray, List.map_cons, List.map_nil]; rfl) ?_
          with_reducible refine (lists_copied.calls _ x.f3 A4 c4 x.f4 z m.f1 m.f2 ⟨Kd.C_below G4.out IBd.out.below⟩ ⟨SM.out.cats y YM.out x XM.out⟩).mono ?_
          rintro e wB ⟨vc, rfl, RC, hbq⟩
          refine ⟨_, rfl, ?_⟩
          obtain ⟨Ac, cc, rfl, _, _⟩ := Kd.R_reads RC
          have IBB := aS_ ((IBd.out.retag (g, 1)).step hbq)
          have LT := aS_ (fun b (h : (V g 1).ownBlock = some b) => Kd.R_lt (IBd.out.row (x.f2, g) HP.out 1 (by decide)) b h)
          have TB := aS_ ((retag_old (own := own) (t := (g, 1)) (blk_lt BCd.out)).trans TC.out)
          have OWB := aS_ (OWd.out.kept (grown_of_below hbq none) (by simp))
          have RMB := aS_ (Kd.R_below RMd.out hbq)
          have BTB := aS_ (blk_below BTd.out hbq)
          have BNB := aS_ (blk_below BNd.out hbq)
          have BCB := aS_ (blk_below BCd.out hbq)
          have RCC := aS_ (Kd.R_mono (ok' := fun q => W2.drew.heap.size ≤ q) (Kd.R_bound RC) (fun q hq => hq.2.1))
          have WB := aS_ hbq.size
          refine hK.out _ _ ⟨(cB_ hbq hHeld.1), (cB_ hbq hHeld.2.1), (cB_ hbq hHeld.2.2.1), (cB_ hbq hHeld.2.2.2.1), (cB_ hbq hHeld.2.2.2.2.1), (cB_ hbq hHeld.2.2.2.2.2)⟩ (fun hHeld => ?_)
          clear hK K
          refine nq_ (b := ?_) (some 84) ?_
          refine oq_ (m := ?_) 7 (some 85) fun K hK => ?_
          refine vq_ (v := ?_) (w1 := ?_) ?_
          refine hK.out _ _ ⟨(cB_ (below_alloc (Below.refl _ _) _) hHeld.1), (cB_ (below_alloc (Below.refl _ _) _) hHeld.2.1), (cB_ (below_alloc (Below.refl _ _) _) hHeld.2.2.1), (cB_ (below_alloc (Below.refl _ _) _) hHeld.2.2.2.1), (cB_ (below_alloc (Below.refl _ _) _) hHeld.2.2.2.2.1), (cB_ (below_alloc (Below.refl _ _) _) hHeld.2.2.2.2.2)⟩ (fun hHeld => ?_)
          clear hK K
          refine nq_ (b := ?_) (some 85) ?_
          refine lq_ (m := ?_) 8 (some 86) fun K hK => ?_
          refine Kd.R_append_step k56 (w0 := w) w.heap.size (by rfl) (.tmp 82) (.tmp 85) 33 56 (.agg #[.float .f64 0, .slice none 0 0, .int .i64 0, .int .i64 0, .int .i64 0]) 56 rfl Try.underlying33 infoCut rfl (by decide) (by omega) (V g 1) (X g 1) (⟨x.f3, x.f4, (k : Int), m.f1, m.f2⟩ : S56) [.float .f64 x.f3, .slice Ac x.f4.length cc, .int .i64 z, .int .i64 m.f1, .int .i64 m.f2] (fun q => reown own W2.drew.heap.size (g, 1) q = some (g, 1)) (fun q => W2.drew.heap.size ≤ q) rfl rfl ?aP (fun q hq => ⟨retag_new hq, fun e => absurd (LT.out q e.symm) (Nat.not_lt.2 hq)⟩) (fun q hq => retag_new (Nat.le_trans WB.out hq)) (IBB.out.row (x.f2, g) HP.out 1 (by decide)) IBB.out.below (below_size IBB.out.below) ?aL ?_
          case aP => rw [hz.out]; exact k56_mkM _ _ _ (⟨x.f3, x.f4, (k : Int), m.f1, m.f2⟩ : S56) (Kd.R_lower RCC.out (below_size IBd.out.below))
          case aL => have := XL.out 1 (by decide); have := EL.out; have := JL.out; have := ML.out; have := LN.out; have := NL.out; omega
          intro v4 w4 R4 hb4 hg4 hat4
          obtain ⟨g4, cap4, rfl, _, _, _⟩ := Kd.R_form R4 (by simp)
          obtain ⟨n4, hn4⟩ : ∃ n4, n4 = (X g 1 ++ [(⟨x.f3, x.f4, (k : Int), m.f1, m.f2⟩ : S56)]).length := ⟨_, rfl⟩
          rw [← hn4] at R4 ⊢
          have hbx := blk_grown (IBB.out.box (x.f2, g) HP.out) hg4 (Kd.R_ne (IBB.out.row (x.f2, g) HP.out 1 (by decide)) (IBB.out.box (x.f2, g) HP.out) (by decide))
          have hx4 := blk4 (show w4.heap[g]? = some (.cells #[.int .i64 x.f2, V g 0, V g 1, V g 2] 35 (0, 0)) from hbx)
          have I4 := aS_ (IBB.out.push HP.out (i := 1) (by decide) R4 hg4 hb4)
          have hty := Kd.R_typed (IBB.out.row (x.f2, g) HP.out 1 (by decide))
          have om_ := OWB.out.kept hg4 (fun e => by obtain ⟨cs_, h_⟩ := hty bm e.symm; exact map_not_cells OWB.out _ _ h_)
          have NG := map_ne om_ hbx
          have O4 := aS_ (om_.kept (grown_set _ g 2 (.slice (some ⟨g4, 0, none⟩) n4 cap4)) (fun e => NG (Option.some.inj e)))
          have RM4 := aS_ (Kd.R_mono (ok' := fun _ => True) (Kd.R_far (p := ⟨g, 2, none⟩) (Kd.R_types (Kd.R_over' RMB.out hty (by decide) hg4) hbx (by decide)) (fun _ hk => hk.2) (.slice (some ⟨g4, 0, none⟩) n4 cap4)) (fun _ _ => trivial))
          have BT_4 := blk_grown BTB.out hg4 (Kd.R_ne (IBB.out.row (x.f2, g) HP.out 1 (by decide)) BTB.out (by decide))
          have BT4 := aS_ (blk_far BT_4 (p := ⟨g, 2, none⟩) (cells_ne BT_4 hbx (by decide)) (.slice (some ⟨g4, 0, none⟩) n4 cap4))
          have BN_4 := blk_grown BNB.out hg4 (Kd.R_ne (IBB.out.row (x.f2, g) HP.out 1 (by decide)) BNB.out (by decide))
          have BN4 := aS_ (blk_far BN_4 (p := ⟨g, 2, none⟩) (cells_ne BN_4 hbx (by decide)) (.slice (some ⟨g4, 0, none⟩) n4 cap4))
          have BC_4 := blk_grown BCB.out hg4 (fun e => by have h_ : reown own W2.drew.heap.size (g, 1) gc = some (g, 1) := (IBB.out.row (x.f2, g) HP.out 1 (by decide)).1 gc e.symm; rw [TB.out] at h_; injection h_ with h_; injection h_ with _ h_; exact absurd h_ (by decide))
          have BC4 := aS_ (blk_far BC_4 (p := ⟨g, 2, none⟩) (cells_ne BC_4 hbx (by decide)) (.slice (some ⟨g4, 0, none⟩) n4 cap4))
          clear R4 hb4 hg4 hat4 hn4 hbx hty NG om_ BT_4 BN_4 BC_4
          refine hK.out _ _ ?_
          clear hK K
          refine nq_ (b := ?_) (some 86) ?_
          refine pq_ (v := ?_) (b := ?_) (m := ?_) 9 (some 87) ?_
          refine pq_ (v := ?_) (b := ?_) (m := ?_) 10 (some 88) ?_
          refine lq_ (m := ?_) 11 none fun K hK => ?_
          refine skip_ (w1 := ?_) (by rfl) rfl ?_ ?_
          rotate_left
          ·go_simp
           rfl
          refine hK.out _ _ ?_
          clear hK K
          refine done_ (by kernel_rfl) ?_
          go_wp2
          go_meet
          exact ⟨_, _, _, rfl, I4, ⟨rfl⟩, O4, RM4, BT4, BN4, BC4, TB⟩
        case rest =>
         clear IB2 OW2 RM2 BT2 BN2 BC TC hn2 hc2
         obtain ⟨V9, X9, own9, rfl, IB, XE, OW, RM, BT_, BN, BC, TC⟩ := hcut
         have XL9 := aS_ (show ∀ i, i < 3 → (X9 g i).length ≤ (evTo ts k).length + j + 1 from fun i hi => by
          have h0_ := XL.out i hi
          have h1_ := XL.out (if tk then 1 else 0) (by cases tk <;> decide)
          rw [XE.out]
          unfold upd
          by_cases h_ : g = g ∧ i = (if tk then 1 else 0)
          ·rw [if_pos h_, List.length_append, List.length_singleton]; omega
          ·rw [if_neg h_]; omega)
         clear XL
         obtain ⟨tl, htl⟩ : ∃ tl : Bool, (x.f5 == 2) = tl := ⟨_, rfl⟩
         have RE' := aS_ (show RowsE (evTo ts k ++ (ms.take (j + 1)).map (evM k y.f1)) G (if tl then upd X9 g 2 (X9 g 2 ++ [(⟨x.f3, x.f4, (k : Int), m.f1, m.f2⟩ : S56)]) else X9) by
          rw [EVJ.out, ← List.append_assoc]
          exact RE.out.put IB.out.keys IB.out.boxes HP.out (x, (⟨x.f3, x.f4, (k : Int), m.f1, m.f2⟩ : S56)) rfl (puts_row X g x (⟨x.f3, x.f4, (k : Int), m.f1, m.f2⟩ : S56) tk tl TK.out htl X9 XE.out) (puts_other X g (⟨x.f3, x.f4, (k : Int), m.f1, m.f2⟩ : S56) tk tl X9 XE.out))
         have FE' := aS_ (show Feat (evTo ts k ++ (ms.take (j + 1)).map (evM k y.f1)) G by rw [EVJ.out, ← List.append_assoc]; exact Feat1.put FE.out rfl)
         have hn3 := blk8 BN.out
         cases tl
         ·go_wp2
          go_roundg k2
          case measure => exact Nat.lt_succ_self _
          case rel => exact ⟨_, j + 1, n, D, G, V9, X9, own9, rfl, ⟨by first | exact wj | omega⟩, ⟨JL.out⟩, ⟨by have := hm2.out; have := JL.out; omega⟩, IB, ID, OW, ⟨RE'.out⟩, ⟨by have := NE.out; omega⟩, RM, BT_, FE'⟩
         ·go_upto_region 22 with (fail)
          clear hn3
          have IBd := aS_ (IB.out.step (below_drew (Below.refl _ _)))
          have OWd := aS_ (OW.out.drew)
          have RMd := aS_ (Kd.R_drew RM.out)
          have BTd := aS_ (blk_drew BT_.out)
          have BNd := aS_ (blk_drew BN.out)
          have BCd := aS_ (blk_drew BC.out)
          have hb2 := blk4 (show wc.drew.heap[g]? = some (.cells #[.int .i64 x.f2, V9 g 0, V9 g 1, V9 g 2] 35 (0, 0)) from IBd.out.box (x.f2, g) HP.out)
          have hc2 := blk5 BCd.out
          clear IB OW RM BT_ BN BC
          go_wp2
          refine start_ (n := 12) (S := fun w' => w'.cell? ⟨g, 3, none⟩ = some (V9 g 2) ∧ w'.cell? ⟨gc, 0, none⟩ = some (.float .f64 x.f3) ∧ w'.cell? ⟨gc, 1, none⟩ = some (.slice A4 x.f4.length c4) ∧ w'.cell? ⟨gc, 2, none⟩ = some (.int .i64 z) ∧ w'.cell? ⟨gc, 3, none⟩ = some (.int .i64 m.f1) ∧ w'.cell? ⟨gc, 4, none⟩ = some (.int .i64 m.f2)) (ds := [8, 11]) #[false, false, false, false, false, false, false, false, false, false, false, false] (by kernel_rfl) rfl rfl ⟨hb2.2.2.2.1, hc2.1.1, hc2.2.1.1, hc2.2.2.1.1, hc2.2.2.2.1.1, hc2.2.2.2.2.1⟩ (fun hHeld => ?_)
          refine pq_ (v := ?_) (b := ?_) (m := ?_) 0 (some 103) ?_
          refine pq_ (v := ?_) (b := ?_) (m := ?_) 1 (some 104) ?_
          refine pq_ (v := ?_) (b := ?_) (m := ?_) 2 (some 105) ?_
          refine pq_ (v := ?_) (b := ?_) (m := ?_) 3 (some 106) ?_
          refine tq_ (v := ?_) (b := ?_) (m := ?_) 4 (some 107) hHeld ?_
          refine tq_ (v := ?_) (b := ?_) (m := ?_) 5 (some 108) hHeld ?_
          refine oq_ (m := ?_) 6 (some 109) fun K hK => ?_
          refine goes_ Try.func24 (by kernel_rfl) rfl #[.agg #[.float .f64 x.f3, .slice A4 x.f4.length c4, .int .i64 z, .int .i64 m.f1, .int .i64 m.f2]] (by rfl) rfl rfl (by simp only [List.map_toArray, List.map_cons, List.map_nil]; rfl) ?_
          with_reducible refine (lists_copied.calls _ x.f3 A4 c4 x.f4 z m.f1 m.f2 ⟨Kd.C_below G4.out IBd.out.below⟩ ⟨SM.out.cats y YM.out x XM.out⟩).mono ?_
          rintro e wB ⟨vc, rfl, RC, hbq⟩
          refine ⟨_, rfl, ?_⟩
          obtain ⟨Ac, cc, rfl, _, _⟩ := Kd.R_reads RC
          have IBB := aS_ ((IBd.out.retag (g, 2)).step hbq)
          have LT := aS_ (fun b (h : (V9 g 2).ownBlock = some b) => Kd.R_lt (IBd.out.row (x.f2, g) HP.out 2 (by decide)) b h)
          have TB := aS_ ((retag_old (own := own9) (t := (g, 2)) (blk_lt BCd.out)).trans TC.out)
          have OWB := aS_ (OWd.out.kept (grown_of_below hbq none) (by simp))
          have RMB := aS_ (Kd.R_below RMd.out hbq)
          have BTB := aS_ (blk_below BTd.out hbq)
          have BNB := aS_ (blk_below BNd.out hbq)
          have BCB := aS_ (blk_below BCd.out hbq)
          have RCC := aS_ (Kd.R_mono (ok' := fun q => wc.drew.heap.size ≤ q) (Kd.R_bound RC) (fun q hq => hq.2.1))
          have WB := aS_ hbq.size
          refine hK.out _ _ ⟨(cB_ hbq hHeld.1), (cB_ hbq hHeld.2.1), (cB_ hbq hHeld.2.2.1), (cB_ hbq hHeld.2.2.2.1), (cB_ hbq hHeld.2.2.2.2.1), (cB_ hbq hHeld.2.2.2.2.2)⟩ (fun hHeld => ?_)
          clear hK K
          refine nq_ (b := ?_) (some 109) ?_
          refine oq_ (m := ?_) 7 (some 110) fun K hK => ?_
          refine vq_ (v := ?_) (w1 := ?_) ?_
          refine hK.out _ _ ⟨(cB_ (below_alloc (Below.refl _ _) _) hHeld.1), (cB_ (below_alloc (Below.refl _ _) _) hHeld.2.1), (cB_ (below_alloc (Below.refl _ _) _) hHeld.2.2.1), (cB_ (below_alloc (Below.refl _ _) _) hHeld.2.2.2.1), (cB_ (below_alloc (Below.refl _ _) _) hHeld.2.2.2.2.1), (cB_ (below_alloc (Below.refl _ _) _) hHeld.2.2.2.2.2)⟩ (fun hHeld => ?_)
          clear hK K
          refine nq_ (b := ?_) (some 110) ?_
          refine lq_ (m := ?_) 8 (some 111) fun K hK => ?_
          refine Kd.R_append_step k56 (w0 := w) w.heap.size (by rfl) (.tmp 107) (.tmp 110) 33 56 (.agg #[.float .f64 0, .slice none 0 0, .int .i64 0, .int .i64 0, .int .i64 0]) 56 rfl Try.underlying33 infoCut rfl (by decide) (by omega) (V9 g 2) (X9 g 2) (⟨x.f3, x.f4, (k : Int), m.f1, m.f2⟩ : S56) [.float .f64 x.f3, .slice Ac x.f4.length cc, .int .i64 z, .int .i64 m.f1, .int .i64 m.f2] (fun q => reown own9 wc.drew.heap.size (g, 2) q = some (g, 2)) (fun q => wc.drew.heap.size ≤ q) rfl rfl ?aP (fun q hq => ⟨retag_new hq, fun e => absurd (LT.out q e.symm) (Nat.not_lt.2 hq)⟩) (fun q hq => retag_new (Nat.le_trans WB.out hq)) (IBB.out.row (x.f2, g) HP.out 2 (by decide)) IBB.out.below (below_size IBB.out.below) ?aL ?_
          case aP => rw [hz.out]; exact k56_mkM _ _ _ (⟨x.f3, x.f4, (k : Int), m.f1, m.f2⟩ : S56) (Kd.R_lower RCC.out (below_size IBd.out.below))
          case aL => have := XL9.out 2 (by decide); have := EL.out; have := JL.out; have := ML.out; have := LN.out; have := NL.out; omega
          intro v4 w4 R4 hb4 hg4 hat4
          obtain ⟨g4, cap4, rfl, _, _, _⟩ := Kd.R_form R4 (by simp)
          obtain ⟨n4, hn4⟩ : ∃ n4, n4 = (X9 g 2 ++ [(⟨x.f3, x.f4, (k : Int), m.f1, m.f2⟩ : S56)]).length := ⟨_, rfl⟩
          rw [← hn4] at R4 ⊢
          have hbx := blk_grown (IBB.out.box (x.f2, g) HP.out) hg4 (Kd.R_ne (IBB.out.row (x.f2, g) HP.out 2 (by decide)) (IBB.out.box (x.f2, g) HP.out) (by decide))
          have hx4 := blk4 (show w4.heap[g]? = some (.cells #[.int .i64 x.f2, V9 g 0, V9 g 1, V9 g 2] 35 (0, 0)) from hbx)
          have I4 := aS_ (IBB.out.push HP.out (i := 2) (by decide) R4 hg4 hb4)
          have hty := Kd.R_typed (IBB.out.row (x.f2, g) HP.out 2 (by decide))
          have om_ := OWB.out.kept hg4 (fun e => by obtain ⟨cs_, h_⟩ := hty bm e.symm; exact map_not_cells OWB.out _ _ h_)
          have NG := map_ne om_ hbx
          have O4 := aS_ (om_.kept (grown_set _ g 3 (.slice (some ⟨g4, 0, none⟩) n4 cap4)) (fun e => NG (Option.some.inj e)))
          have RM4 := aS_ (Kd.R_mono (ok' := fun _ => True) (Kd.R_far (p := ⟨g, 3, none⟩) (Kd.R_types (Kd.R_over' RMB.out hty (by decide) hg4) hbx (by decide)) (fun _ hk => hk.2) (.slice (some ⟨g4, 0, none⟩) n4 cap4)) (fun _ _ => trivial))
          have BT_4 := blk_grown BTB.out hg4 (Kd.R_ne (IBB.out.row (x.f2, g) HP.out 2 (by decide)) BTB.out (by decide))
          have BT4 := aS_ (blk_far BT_4 (p := ⟨g, 3, none⟩) (cells_ne BT_4 hbx (by decide)) (.slice (some ⟨g4, 0, none⟩) n4 cap4))
          have BN_4 := blk_grown BNB.out hg4 (Kd.R_ne (IBB.out.row (x.f2, g) HP.out 2 (by decide)) BNB.out (by decide))
          have BN4 := aS_ (blk_far BN_4 (p := ⟨g, 3, none⟩) (cells_ne BN_4 hbx (by decide)) (.slice (some ⟨g4, 0, none⟩) n4 cap4))
          have BC_4 := blk_grown BCB.out hg4 (fun e => by have h_ : reown own9 wc.drew.heap.size (g, 2) gc = some (g, 2) := (IBB.out.row (x.f2, g) HP.out 2 (by decide)).1 gc e.symm; rw [TB.out] at h_; injection h_ with h_; injection h_ with _ h_; exact absurd h_ (by decide))
          have BC4 := aS_ (blk_far BC_4 (p := ⟨g, 3, none⟩) (cells_ne BC_4 hbx (by decide)) (.slice (some ⟨g4, 0, none⟩) n4 cap4))
          clear R4 hb4 hg4 hat4 hn4 hbx hty NG om_ BT_4 BN_4 BC_4
          refine hK.out _ _ ?_
          clear hK K
          refine nq_ (b := ?_) (some 111) ?_
          refine pq_ (v := ?_) (b := ?_) (m := ?_) 9 (some 112) ?_
          refine pq_ (v := ?_) (b := ?_) (m := ?_) 10 (some 113) ?_
          refine lq_ (m := ?_) 11 none fun K hK => ?_
          refine skip_ (w1 := ?_) (by rfl) rfl ?_ ?_
          rotate_left
          ·go_simp
           rfl
          refine hK.out _ _ ?_
          clear hK K
          refine done_ (by kernel_rfl) ?_
          go_wp2
          go_roundg k2
          case measure => exact Nat.lt_succ_self _
          case rel => exact ⟨_, j + 1, n, D, G, _, _, _, rfl, ⟨by first | exact wj | omega⟩, ⟨JL.out⟩, ⟨by have := hm2.out; have := JL.out; omega⟩, I4, ID, O4, ⟨RE'.out⟩, ⟨by have := NE.out; omega⟩, RM4, BT4, FE'⟩
      ·have cnd2 : decide (zj < (ms.length : Int)) = false := decide_eq_false (by have := hj.out; omega)
       have RE2 := aS_ (show RowsE (evTo ts (k + 1)) G X by rw [YE.out]; unfold evT; rw [← MS.out]; have h_ := RE.out; rw [List.take_of_length_le (by omega)] at h_; exact h_)
       have FE2 := aS_ (show Feat (evTo ts (k + 1)) G by rw [YE.out]; unfold evT; rw [← MS.out]; have h_ := FE.out; rw [List.take_of_length_le (by omega)] at h_; exact h_)
       have NE2 := aS_ (show n ≤ (evTo ts (k + 1)).length by rw [YE.out, List.length_append]; unfold evT; rw [← MS.out, List.length_map]; have := NE.out; have := hjl.out; omega)
       clear hend
       go_wp2
       go_roundg k1
       case measure => exact Nat.lt_succ_self _
       case rel => exact ⟨_, k + 1, n, D, G, V, X, own, rfl, ⟨wz⟩, ⟨NL.out⟩, ⟨by have := hm.out; have := NL.out; omega⟩, IB, ID, OW, RE2, NE2, FE2⟩
   ·have cnd : decide (z < (ts.length : Int)) = false := decide_eq_false (by have := hz.out; omega)
    have RE2 := aS_ (show RowsE (evTo ts ts.length) G X by have h_ := RE.out; rwa [show k = ts.length by have := hk.out; omega] at h_)
    have EL := aS_ (show (evTo ts ts.length).length ≤ 4095 * ts.length from evTo_len GD.out FN.out _ (Nat.le_refl _))
    have FE2 := aS_ (show Feat (evTo ts ts.length) G by have h_ := FE.out; rwa [show k = ts.length by have := hk.out; omega] at h_)
    have NE2 := aS_ (show n ≤ (evTo ts ts.length).length by have h_ := NE.out; rwa [show k = ts.length by have := hk.out; omega] at h_)
    clear hend RE NE FE
    have WB0 := aS_ (show w.heap.size ≤ wr.heap.size from below_size IB.out.below)
    have EN := aS_ (show (evTo ts ts.length).length ≤ 268369920 by have := EL.out; have := LN.out; omega)
    have SD := aS_ (size_le_of OW.out)
    go_wp2_with (first | (at_range; refine wpList_range_own _ rfl _ 66 rfl 3 72 lawI Try.underlying66 ptrR bm n D rfl OW.out ?_; intro w0_ hrg0 hg0 hs0))
    go_frame
    obtain ⟨rb, hrb⟩ : ∃ rb, wr.heap.size = rb := ⟨_, rfl⟩
    rw [hrb] at hrg0 ⊢
    have RB := aS_ (show w.heap.size ≤ rb by rw [← hrb]; exact WB0.out)
    have IP0 := aS_ (InP.start (IB.out.step ((Below.refl wr.heap.size wr).grown hg0 (Nat.le_refl _) (fun q hq => by cases hq))) ID.out RE2.out)
    have RG0 := aS_ hrg0
    clear hrg0 hg0 hs0 hrb WB0 IB OW
    go_loopg [17] (Maps.size D + 1) (fun kq v17 w' => ∃ (vO : Value) (left : Lit → Bool) (cnt : Nat) (done : List (Int × Nat)) (X : Nat → Nat → List S56) (own : Nat → Option (Nat × Nat)), vO = v17 ∧ Aside0 (w'.ranges Try.prog 3 ptrR bm rb n D left cnt) ∧ Aside0 (cnt < kq) ∧ Aside0 (done.length + cnt ≤ n) ∧ Aside0 (InP w (evTo ts ts.length) G V X own done left vO w'))
    case atStart => exact ⟨_, _, _, [], X, own, rfl, RG0, ⟨Nat.lt_succ_self _⟩, ⟨by have := SD.out; simp; omega⟩, IP0⟩
    case round =>
     clear RG0 IP0 SD
     obtain ⟨vO, left, cnt, done, X, own, hvO, hrg, hk2, hlen, IP⟩ := hrel
     subst hvO
     cases gk with
     | zero => exact absurd hk2.out (by omega)
     | succ k2 =>
      go_wp2_with (first | (at_next; refine wpList_next_ranges _ rfl _ rfl 3 lawI ptrR (Value.int .i64) (fun q : Option Nat => Value.pointer (q.map fun g => ⟨g, 0, none⟩)) (fun key kl hkey => by obtain ⟨x, rfl, _⟩ := Maps.keyOf_int_inv Try.underlying3 hkey; exact ⟨x, rfl⟩) (fun v y hv => by rcases ptrR_inv hv with ⟨rfl, _⟩ | ⟨g, rfl, _⟩; exact ⟨none, rfl⟩; exact ⟨some g, rfl⟩) bm rb n D left cnt rfl hrg.out ?_ ?_))
      ·intro hc0 hl0
       have LZ := aS_ hl0
       clear hc0 hl0
       go_wp2_with (first | (go_at_call 28; refine (risingL.calls _ w.heap.size (okOut own done) _ _ ⟨IP.out.row⟩ (fun _ _ => trivial) ⟨by rw [List.length_map]; have := hlen.out; have := NE2.out; have := EN.out; omega⟩).mono ?_; rintro e w5 ⟨ys, rfl, hst, hrs, hR5, hg5⟩; have SP := aS_ (IP.out.outs_spec LZ.out RE2.out FE2.out hst hrs); have R5 := aS_ (Kd.R_mono (ok' := fun _ => True) hR5 (fun _ _ => trivial)); have B5 := aS_ (Below.grown IP.out.ib.below hg5 (below_size IP.out.ib.below) (fun q hq => Kd.R_base IP.out.row q hq)); clear hst hrs hR5 hg5))
       go_ret2
       exact ⟨_, ys, rfl, SP.out, R5.out, B5.out⟩
      ·intro x q kl ya yb w1 cnt1 hkey hlk hv hat hrg1 hlt hg1 hs1 hen
       obtain ⟨x', ex, rfl, _⟩ := Maps.keyOf_int_inv Try.underlying3 hkey
       cases ex
       obtain ⟨g, rfl, hpg⟩ := ID.out.entry (y := (ya, yb)) hv hat
       have HG := aS_ hpg
       have HL := aS_ hlk
       have CL := aS_ hlt
       have IP1 := aS_ (IP.out.beside hg1 (Below.grown IP.out.ib.below hg1 (below_size IP.out.ib.below) (fun q hq => by injection hq with hq; rw [← hq]; exact RB.out)) (iter_not_cells hrg.out))
       have RG1 := aS_ hrg1
       have XR := aS_ (IP.out.raw (x, g) hpg (IP.out.fresh hpg hlk) 0 (by decide))
       have hb1 := blk4 (show w1.heap[g]? = some (.cells #[.int .i64 x, V g 0, V g 1, V g 2] 35 (0, 0)) from IP1.out.ib.box (x, g) hpg)
       clear hkey hlk hv hat hrg1 hlt hg1 hs1 hpg hrg IP
       go_wp2_with (first | (go_at_call 25; refine (risingC.calls _ w.heap.size (fun k => own k = some (g, 0)) (V g 0) (X g 0) ⟨IP1.out.ib.row (x, g) HG.out 0 (by decide)⟩ (by intro c_ hc_; have hxr : X g 0 = _ := XR.out; rw [hxr] at hc_; unfold rowOf at hc_; obtain ⟨e_, he_, rfl⟩ := List.mem_map.1 hc_; exact evTo_bits FN.out SM.out.bits e_ (List.mem_filter.1 he_).1) ⟨by have hxr : X g 0 = _ := XR.out; rw [hxr]; have := rowOf_len (evTo ts ts.length) x 0; have := EN.out; show (rowOf _ _ _).length ≤ _; omega⟩).mono ?_; rintro e w2 ⟨ys, rfl, hst, hrs, hR2, hg2⟩; have hb2 := Below.grown IP1.out.ib.below hg2 (below_size IP1.out.ib.below) (fun q hq => Kd.R_base (IP1.out.ib.row (x, g) HG.out 0 (by decide)) q hq); obtain ⟨hI2, hO2⟩ := IP1.out.sorted HG.out HL.out hR2 hg2 hb2; have hty := Kd.R_typed (IP1.out.ib.row (x, g) HG.out 0 (by decide)); have RG2 := aS_ (RG1.out.kept hg2 (fun e => by obtain ⟨cs_, h_⟩ := hty bm e.symm; exact map_not_cells RG1.out.owns _ _ h_) (fun e => by obtain ⟨cs_, h_⟩ := hty rb e.symm; exact iter_not_cells RG1.out _ _ h_)); have hx2 := blk4 (show w2.heap[g]? = some (.cells #[.int .i64 x, V g 0, V g 1, V g 2] 35 (0, 0)) from hI2.box (x, g) HG.out); have LT := aS_ (fun b (h : vO.ownBlock = some b) => Kd.R_lt hO2 b h); have IB2 := aS_ hI2; have RO2 := aS_ hO2; have ST := aS_ hst; have RS := aS_ hrs; clear hst hrs hR2 hg2 hb2 hI2 hO2 hty) | ((with_reducible refine gate_builtin (b := .append) (xs := #[.tmp 127, .tmp 131]) rfl ?_); at_builtin; refine Kd.R_append k35 (w0 := w) w.heap.size rfl (.tmp 127) (.tmp 131) 24 35 (.agg #[.int .i64 0, .slice none 0 0, .slice none 0 0, .slice none 0 0]) 80 rfl Try.underlying24 infoList rfl (by decide) (by omega) vO (done.map fun q => ⟨q.1, X q.2 0, X q.2 1, X q.2 2⟩) (⟨x, upd X g 0 ys g 0, upd X g 0 ys g 1, upd X g 0 ys g 2⟩ : S35) [.int .i64 x, V g 0, V g 1, V g 2] (okOut (reown own w2.heap.size (0, 3)) (done ++ [(x, g)])) (fun k => ∃ i, i < 3 ∧ reown own w2.heap.size (0, 3) k = some (g, i)) rfl rfl (out_new IB2.out HG.out) (fun k hk => out_apart IP1.out LT.out (p := (x, g)) k hk) (fun k hk => .inl (retag_new hk)) (out_old RO2.out (x, g)) IB2.out.below (below_size IB2.out.below) (by rw [List.length_map]; have := hlen.out; have := NE2.out; have := EN.out; have := CL.out; omega) ?_; intro v4 w4 R4 hb4 hg4 hat4; have hty := Kd.R_typed RO2.out; have RG4 := aS_ (RG2.out.kept hg4 (fun e => by obtain ⟨cs_, h_⟩ := hty bm e.symm; exact map_not_cells RG2.out.owns _ _ h_) (fun e => by obtain ⟨cs_, h_⟩ := hty rb e.symm; exact iter_not_cells RG2.out _ _ h_)); have IP4 := aS_ (IP1.out.next HG.out HL.out ST.out RS.out IB2.out LT.out R4 hg4 hb4 hat4); clear R4 hb4 hg4 hat4 hty))
       go_roundg k2
       case measure => exact Nat.lt_succ_self _
       case rel => exact ⟨_, _, cnt1, done ++ [(x, g)], _, _, rfl, RG4, ⟨by have := CL.out; have := hk2.out; omega⟩, ⟨by rw [List.length_append, List.length_singleton]; have := CL.out; have := hlen.out; omega⟩, IP4⟩
set_option maxHeartbeats 4000000 in
set_option maxRecDepth 100000 in
theorem lists_Of.bad (w : World) (A : Option Addr) (c : Nat) (ts : List S53) (F : Int) (hts : Aside0 (Kd.C k53 w A ts.length ts)) (hsm : SmallU ts) (hf0 : faultV F ts ≠ 0) :
  Calls Try.prog 8 #[.slice A ts.length c, .int .i64 F] w fun e w' => e = .returned (.tuple #[.slice none 0 0, .int .i64 (faultV F ts)]) ∧ Below w.heap.size w w' := by
 have SM := aS_ hsm
 obtain ⟨r, hr⟩ : ∃ r, r = faultV F ts := ⟨_, rfl⟩
 rw [← hr] at hf0 ⊢
 have RR := aS_ hr
 have c1_ : (r != 0) = true := bne_iff_ne.mpr hf0
 have c2_ := eq_false hf0
 clear hsm hf0 hr
 go_enter Try.func8, Try.ntmps8
 go_wp2_with (first | (go_at_call 22; refine (lists_fault.calls _ A c ts F hts SM.out.t).mono ?_; rw [← RR.out]; rintro e w3 ⟨rfl, hb⟩; have HB := aS_ hb; clear hb))
 go_ret2
 exact ⟨rfl, HB.out⟩
end Go.Proofs.Ytfmjgjfbnilpoaa.FAll
