/-
 trees.all: an iterator over a tree's nodes, each ahead of those below it, left ones first.
-/
import Derived.Test.YtfmjgjfbnilpoaaZq
import Derived.Test.YtfmjgjfbnilpoaaRg
import Derived.Test.YtfmjgjfbnilpoaaPb
import Derived.Test.YtfmjgjfbnilpoaaPh
import Derived.Shelf.Abstract
import Derived.Shelf.RegionOpen
import Derived.OwnWalkIn
import Derived.TacticsInMore
import Derived.LoopNIn
import Derived.LoopIn
import Derived.Sort.LoopGhostIn
import Derived.Maps.AppendAt
namespace Go.Proofs.Ytfmjgjfbnilpoaa.FAll
open Go.RowKit Go.Shelf YtfmjgjfbnilpoaaW.PrintWords YtfmjgjfbnilpoaaW.PrintLast YtfmjgjfbnilpoaaW.PrintMore BTree
attribute [local go_sem] fstore_walk
set_option linter.unusedVariables false
set_option linter.unusedSimpArgs false
def innN (ns : List S71) (i : Nat) : Bool := innerB (rd_T71 ns (i : Int))
def klN (ns : List S71) (i : Nat) : Nat := (rd_T71 ns (i : Int)).f6.toNat
def krN (ns : List S71) (i : Nat) : Nat := (rd_T71 ns (i : Int)).f7.toNat
/-- The nodes are a binary tree's. -/
structure TreeIs (ns : List S71) (T : BT) : Prop where
 is : Is ns.length (innN ns) (klN ns) (krN ns) T
 root : T.root = 0
 kids : ∀ i, i < ns.length → innN ns i = true → 0 ≤ (rd_T71 ns (i : Int)).f6 ∧ 0 ≤ (rd_T71 ns (i : Int)).f7
 few : T.pre.length ≤ ns.length
def stkC (p : BT × Nat) : List Value := [.int .i64 p.1.root, .int .i64 p.2]
/-- The stack's cells, the next tree's last. -/
def stk : List (BT × Nat) → List Value
 | [] => []
 | p :: L => stk L ++ stkC p
theorem stk_length (L : List (BT × Nat)) : (stk L).length = L.length * 2 := by
 induction L with
 | nil => rfl
 | cons p L ih => simp only [stk, List.length_append, ih, stkC, List.length_cons, List.length_nil]; omega
theorem stk_top (p : BT × Nat) (L : List (BT × Nat)) (m : Nat) (hm : m = L.length) : (stk (p :: L))[m * 2]? = some (.int .i64 p.1.root) ∧ (stk (p :: L))[m * 2 + 1]? = some (.int .i64 p.2) := by
 have hl := stk_length L
 subst hm
 constructor
 ·show (stk L ++ stkC p)[L.length * 2]? = _
  rw [List.getElem?_append_right (by omega), hl, Nat.sub_self]; rfl
 ·show (stk L ++ stkC p)[L.length * 2 + 1]? = _
  rw [List.getElem?_append_right (by omega), hl, Nat.add_sub_cancel_left]; rfl
theorem stk_take (p : BT × Nat) (L : List (BT × Nat)) (m : Nat) (hm : m = L.length) : (stk (p :: L)).take (m * 2) = stk L := by
 show (stk L ++ stkC p).take (m * 2) = _
 rw [hm, ← stk_length L, List.take_left]
theorem own_move {w w1 : World} {b : Nat} {e : TypeId} {s n : Nat} {v : Value} {xs : List Value} (h : w.ownsRow b e s v n xs) (hm : ∀ k cells, v.ownBlock = some k → w.heap[k]? = some (.cells cells e (0, 0)) → w1.heap[k]? = some (.cells cells e (0, 0))) : w1.ownsRow b e s v n xs := by
 refine ⟨h.1, ?_⟩
 rcases h.2 with h | ⟨g, cap, cur, rfl, hb, hh, r⟩
 ·exact .inl h
 ·exact .inr ⟨g, cap, cur, rfl, hb, hm g cur rfl hh, r⟩
def kidsOf : BT × Nat → List (BT × Nat)
 | (.leaf _, _) => []
 | (.node _ l r, d) => [(l, d + 1), (r, d + 1)]
theorem preAllD_cons (p : BT × Nat) (L : List (BT × Nat)) : preAllD (p :: L) = (p.1.root, p.2) :: preAllD (kidsOf p ++ L) := by
 obtain ⟨T, d⟩ := p
 cases T with
 | leaf i => exact preAllD_leaf i d L
 | node i l r => exact preAllD_node i d l r L
theorem preAllD_len (L : List (BT × Nat)) : L.length ≤ (preAllD L).length := by
 induction L with
 | nil => exact Nat.le_refl _
 | cons p L ih =>
  have h : 0 < (p.1.preD p.2).length := by cases p.1 <;> simp [BT.preD]
  simp only [preAllD, List.length_append, List.length_cons]
  omega
theorem BT.preD_len (T : BT) (d : Nat) : (T.preD d).length = T.pre.length := by rw [← T.preD_fst d, List.length_map]
theorem infoSTEP : (Try.prog.info? 134).map (fun i => (i.zero, i.size, i.bytes)) = some (some (.agg #[.int .i64 0, .int .i64 0]), 2, 16) := by kernel_rfl
abbrev sp2 (t : TypeId) : Prop := t = 134 ∨ t = 53
theorem cells_alloc {w : World} {cs : List Value} {e : TypeId} : ∀ (j : Nat) (u : Value), cs[j]? = some u → (w.alloc (.cells cs.toArray e)).cell? ((⟨w.heap.size, 0, none⟩ : Addr).add j) = some u := fun j u hu => by
 rw [add_plain]
 exact (blk_cell (blk_new w _) j).trans (by rw [List.getElem?_toArray]; exact hu)
set_option maxHeartbeats 4000000 in
set_option maxRecDepth 100000 in
theorem all1_seq (w0 w : World) (n : Nat) (hn : 1 ≤ n) (t0 : Int) (A1 : Option Addr) (c1 : Nat) (ns : List S71) (T : BT) (Bt : Nat) (hns : Aside0 (Kd.C k71 w0 A1 ns.length ns)) (hT : Aside0 (TreeIs ns T)) (hlen : Aside0 (ns.length ≤ 1759218604441))
  (hw : Aside0 (Below w0.heap.size w0 w)) (hBt : Aside0 (w.heap[Bt]? = some (.cells #[.int .i64 t0, .slice A1 ns.length c1] 53 (0, 0)))) :
  SeqT Fence.wide n Try.prog 76 #[.pointer (some ⟨Bt, 0, none⟩)] (fun x : Nat × Nat => #[Value.int .i64 x.1, Value.int .i64 x.2]) 134 sp2 w0.heap.size (T.preD 0) w := by
 intro l J W hW hJ hY h0
 refine callsIn_of_wp Try.func76 rfl trivial ?_ rfl
 simp only [Try.ntmps76, List.size_toArray, List.length_cons, List.length_nil, Nat.reduceAdd, Nat.reduceSub, Array.replicate_succ, Array.replicate_zero, List.push_toArray, List.append_toArray, List.nil_append, List.cons_append]
 have LN := hlen.out
 obtain ⟨i0, hi, hz0, hz1, hz2⟩ := info_parts infoSTEP
 have HW := aS_ hW
 have HJ := aS_ hJ
 have HY := aS_ hY
 have H0 := aS_ h0
 have HI := aS_ hi
 have HZ0 := aS_ hz0
 have HZ1 := aS_ hz1
 have HZ2 := aS_ hz2
 clear hW hJ hY h0 hi hz0 hz1 hz2
 gi_wp2
 gi_loopg [3] ((T.preD 0).length + 1) (fun kq v3 wr => ∃ (L : List (BT × Nat)) (pre : List (Nat × Nat)) (A : Option Addr) (m c : Nat), v3 = .slice A m c ∧ Aside0 (m = L.length) ∧ Aside0 (wr.ownsRow W.heap.size 134 2 (.slice A m c) m (stk L)) ∧ Aside0 (pre ++ preAllD L = T.preD 0) ∧ Aside0 (∀ p ∈ L, Is ns.length (innN ns) (klN ns) (krN ns) p.1 ∧ p.2 + p.1.pre.length ≤ ns.length) ∧ Aside0 (J pre wr) ∧ Aside0 (Below w0.heap.size w0 wr) ∧ Aside0 (wr.heap[Bt]? = some (.cells #[.int .i64 t0, .slice A1 ns.length c1] 53 (0, 0))) ∧ Aside0 (W.heap.size ≤ wr.heap.size) ∧ Aside0 ((preAllD L).length < kq))
 case atStart =>
  refine ⟨[(T, 0)], [], some ⟨W.heap.size, 0, none⟩, 1, 1, rfl, ⟨rfl⟩, ⟨?_⟩, ⟨?_⟩, ⟨?_⟩, ⟨?_⟩, ⟨?_⟩, ⟨?_⟩, ⟨?_⟩, ⟨?_⟩⟩
  ·have h := World.ownsRow_lit (base := W.heap.size) (e := 134) (size := 2) W #[.int .i64 0, .int .i64 0] 1 (Nat.le_refl _) (by decide) rfl
   have e : stk [(T, 0)] = [.int .i64 0, .int .i64 0] := by
    show [] ++ [Value.int .i64 ((T.root : Nat) : Int), Value.int .i64 ((0 : Nat) : Int)] = _
    rw [hT.out.root]; rfl
   rw [e]
   exact h
  ·simp [preAllD]
  ·intro p hp
   obtain rfl : p = (T, 0) := by simpa using hp
   exact ⟨hT.out.is, by have := hT.out.few; simp only; omega⟩
  ·exact HJ.out _ _ _ H0.out (StepT.of_below (below_alloc (Below.refl _ _) _) (Nat.le_refl _))
  ·exact (hw.out.trans (HW.out.mono hw.out.size)).trans ((below_alloc (Below.refl _ _) _).mono (Nat.le_trans hw.out.size HW.out.size))
  ·exact blk_alloc (blk_below hBt.out HW.out) _
  ·rw [World.size_alloc]; omega
  ·simp [preAllD]
 case round =>
  obtain ⟨L, pre, A, m, c, rfl, HM, HR, HX, HL, HJ1, HB, HBt, HS, HK⟩ := hrel
  cases gk with
  | zero => exact absurd HK.out (Nat.not_lt_zero _)
  | succ k1 =>
   cases L with
   | nil =>
    obtain rfl : m = 0 := HM.out
    gi_wp2
    go_end0
    exact ⟨⟨_, rfl⟩, by have h := HX.out; simp only [preAllD, List.append_nil] at h; rw [← h]; exact HJ1.out⟩
   | cons p L' =>
    obtain ⟨Tp, d⟩ := p
    obtain ⟨m, rfl⟩ : ∃ m', m = m' + 1 := ⟨L'.length, HM.out⟩
    have hm : m = L'.length := by have := HM.out; simpa using this
    obtain ⟨hTi, hTd⟩ := HL.out _ List.mem_cons_self
    replace hTd : d + Tp.pre.length ≤ ns.length := hTd
    have hpos : 0 < Tp.pre.length := List.length_pos_of_mem Tp.root_mem
    have hms : m + 1 ≤ ns.length := by
     have h1 := preAllD_len ((Tp, d) :: L')
     have h2 := congrArg List.length HX.out
     rw [List.length_append, BT.preD_len] at h2
     have h3 := hT.out.few
     simp only [List.length_cons] at h1
     omega
    obtain ⟨g, cap, eA, hgb, hgl⟩ := HR.out.form (Nat.succ_pos m)
    injection eA with eA _ eC
    subst eA
    subst eC
    have hcells := HR.out.cells (g := g) rfl
    have ec0 : wr.cell? ⟨g, m * 2, none⟩ = some (.int .i64 (Tp.root : Nat)) := by
     have h := hcells _ _ (stk_top (Tp, d) L' m hm).1
     first | exact h | (rw [add_plain] at h; exact h)
    have ec1 : wr.cell? ⟨g, m * 2 + 1, none⟩ = some (.int .i64 (d : Nat)) := by
     have h := hcells _ _ (stk_top (Tp, d) L' m hm).2
     first | exact h | (rw [add_plain] at h; exact h)
    have hJ2 := HJ.out _ _ _ HJ1.out (StepT.of_below (below_alloc (Below.refl wr.heap.size wr) (.cells #[.int .i64 (Tp.root : Nat), .int .i64 (d : Nat)] 134)) HS.out)
    obtain ⟨fn, tmps, assign, body, hy, hR⟩ := HY.out pre (Tp.root, d) (preAllD (kidsOf (Tp, d) ++ L')) _ (by rw [← HX.out, preAllD_cons]) hJ2
    have hcap : m + 1 ≤ c := by
     rcases HR.out.2 with ⟨h, _⟩ | ⟨_, _, _, h, _, _, h2, _⟩
     ·cases h
     ·injection h with _ _ h; omega
    have hrl : Tp.root < ns.length := hTi.lt _ _ Tp.root_mem
    have HR2 := own_take HR.out (Nat.le_succ m)
    rw [stk_take _ _ _ hm] at HR2
    have HR3 := aS_ HR2
    have HG := aS_ (⟨hgb, hgl⟩ : W.heap.size ≤ g ∧ g < wr.heap.size)
    have HTi := aS_ hTi
    have HTd := aS_ hTd
    have HMM := aS_ hm
    have HRR := aS_ hR
    have HRL := aS_ hrl
    have HMS := aS_ hms
    have bd1 : d + 1 ≤ 1759218604441 := by omega
    have bm1 : m + 1 ≤ 1759218604441 := by omega
    have bq1 : (0 : Int) ≤ (m : Int) := Int.natCast_nonneg _
    clear HR2 hcells hJ2 hgb hgl hTi hTd hm hR hpos HM HR hrl hms
    gi_wp2
    refine HRR.out.mono ?_
    rintro e W3 ⟨rfl, hJ3, hb3, hk3⟩
    have Bt3 := aS_ (hk3.same Bt _ _ (Or.inr rfl) (blk_alloc HBt.out _))
    have Bs3 := aS_ (hk3.same wr.heap.size _ _ (Or.inl rfl) (blk_new wr _))
    have n_ := aS_ (own_move HR3.out (fun k cells _ hk => hk3.same k cells _ (Or.inl rfl) (blk_alloc hk _)))
    clear HR3
    have HR3 := n_
    clear n_
    have HJ3 := aS_ hJ3
    have HS3 := aS_ (Nat.le_trans HS.out (Nat.le_trans (Nat.le_succ _) (by have := hk3.size; rw [World.size_alloc] at this; exact this)) : W.heap.size ≤ W3.heap.size)
    have HB3 := aS_ ((HB.out.trans ((below_alloc (Below.refl wr.heap.size wr) _).mono HB.out.size)).trans hb3)
    clear hJ3 hb3 hk3 HRR hy
    obtain ⟨ad, A4, c4, eA1, e0, e1, e2, e3, e4, e5, e6, e7, l4, g4⟩ := at_T71 hns.out (Tp.root : Int) (Int.natCast_nonneg _) (by have := HRL.out; omega)
    subst eA1
    have hkid := hT.out.kids Tp.root HRL.out
    have hinn : innN ns Tp.root = innerB (rd_T71 ns (Tp.root : Int)) := rfl
    have hkl : klN ns Tp.root = (rd_T71 ns (Tp.root : Int)).f6.toNat := rfl
    have hkr : krN ns Tp.root = (rd_T71 ns (Tp.root : Int)).f7.toNat := rfl
    obtain ⟨y, hyy⟩ : ∃ y, y = rd_T71 ns (Tp.root : Int) := ⟨_, rfl⟩
    rw [← hyy] at e0 e1 e2 e3 e4 e5 e6 e7 l4 g4 hkid hinn hkl hkr
    rw [Int.toNat_natCast] at e0 e1 e2 e3 e4 e5 e6 e7
    replace e0 := cB_ HB3.out e0
    replace e1 := cB_ HB3.out e1
    replace e2 := cB_ HB3.out e2
    replace e3 := cB_ HB3.out e3
    replace e4 := cB_ HB3.out e4
    replace e5 := cB_ HB3.out e5
    replace e6 := cB_ HB3.out e6
    replace e7 := cB_ HB3.out e7
    have G4 := aS_ g4
    have L4 := aS_ l4
    have HKD := aS_ hkid
    have HIN := aS_ hinn
    have HKL := aS_ hkl
    have HKR := aS_ hkr
    have HB4 := aS_ (below_alloc HB3.out (.cells #[.int .u8 y.f0, .int .i64 y.f1, .int .i64 y.f2, .float .f64 y.f3, .slice A4 y.f4.length c4, .int .u8 y.f5, .int .i64 y.f6, .int .i64 y.f7] 71))
    have ht3 := blk2 (w := W3) Bt3.out
    have hs3 := blk2 (w := W3) Bs3.out
    have hr1 : (0 : Int) ≤ (Tp.root : Int) := Int.natCast_nonneg _
    have hr2 : (Tp.root : Int) < (ns.length : Int) := by have := HRL.out; omega
    clear g4 l4 hkid hyy hinn hkl hkr
    gi_wp2_with (first | (refine ⟨trivial, ?_⟩; gi_at_call 69; refine (callsIn_wide.2 (trees_inner.calls y.f0 y.f1 y.f2 y.f3 A4 c4 y.f4 y.f5 y.f6 y.f7 _ _ (Kd.C_below G4.out HB4.out) L4.out (inner_f y))).mono ?_; rintro e w5 ⟨rfl, hb⟩; have HB5 := aS_ (below_step HB4.out hb); have Bt5 := aS_ (blk_below (blk_alloc Bt3.out _) hb); have Bs5 := aS_ (blk_below (blk_alloc Bs3.out _) hb); have Bn5 := aS_ (blk_below (blk_new W3 _) hb); have HR5 := aS_ (own_move HR3.out (fun k cells _ hk => blk_below (blk_alloc hk _) hb)); have HJ5 := aS_ (HJ.out _ _ _ HJ3.out ((StepT.of_below (below_alloc (Below.refl W3.heap.size W3) _) HS3.out).trans (StepT.of_below hb (by rw [World.size_alloc]; exact Nat.le_succ_of_le HS3.out)))); have HS5 := aS_ (Nat.le_trans HS3.out (Nat.le_trans (Nat.le_succ _) (by have := hb.size; rw [World.size_alloc] at this; exact this)) : W.heap.size ≤ w5.heap.size); have hn8 := blk8 (w := w5) Bn5.out; have hs2 := blk2 (w := w5) Bs5.out; clear HB4 HR3 hb ht3 hs3) | (gi_at_builtin; refine wpListIn_append_own _ rfl _ _ 135 rfl W.heap.size 134 i0 (.agg #[.int .i64 0, .int .i64 0]) 2 16 Try.underlying135 HI.out HZ0.out HZ1.out HZ2.out rfl (by decide) (.slice (some ⟨g, 0, none⟩) m c) m (stk L') rfl (own_move HR5.out (fun k cells _ hk => blk_alloc hk _)) ⟨w5.heap.size, 0, none⟩ 2 2 [.int .i64 y.f7, .int .i64 ((d : Int) + 1), .int .i64 y.f6, .int .i64 ((d : Int) + 1)] rfl rfl cells_alloc (by simp [Value.oneCell']) (by unfold maxLen; omega) (by omega) (by rw [World.size_alloc]; exact Nat.le_succ_of_le HS5.out) ?_; intro v7 w7 hown7 hg7 _; have HR7 := aS_ hown7; have HG7 := aS_ hg7; clear hown7 hg7))
    ·-- an inner node: two trees more
     have hinn : innN ns Tp.root = true := HIN.out.trans (by assumption)
     obtain ⟨k6, k7⟩ := HKD.out hinn
     cases Tp with
     | leaf i =>
      have h := HTi.out.2
      rw [show innN ns i = true from hinn] at h
      cases h
     | node i tl tr =>
      obtain ⟨t1, t2, t3, t4, t5, t6⟩ := HTi.out
      have hl : (tl.root : Int) = y.f6 := by rw [t3]; have := HKL.out; rw [show klN ns i = y.f6.toNat from this]; omega
      have hr : (tr.root : Int) = y.f7 := by rw [t4]; have := HKR.out; rw [show krN ns i = y.f7.toNat from this]; omega
      have hlen7 : d + (tl.pre.length + tr.pre.length + 1) ≤ ns.length := by have := HTd.out; simp only [BT.pre, List.length_cons, List.length_append] at this; omega
      obtain ⟨gx, cx, rfl⟩ := own_slice HR7.out
      gi_roundg k1
      case measure =>
       have := HK.out
       omega
      case rel =>
       refine ⟨(tl, d + 1) :: (tr, d + 1) :: L', pre ++ [(i, d)], _, m + 2, _, rfl, ⟨by rw [HMM.out]; rfl⟩, ⟨?_⟩, ⟨?_⟩, ⟨?_⟩, ⟨?_⟩, ⟨?_⟩, ⟨?_⟩, ⟨?_⟩, ⟨?_⟩⟩
       ·have e : stk ((tl, d + 1) :: (tr, d + 1) :: L') = stk L' ++ [.int .i64 y.f7, .int .i64 ((d : Int) + 1), .int .i64 y.f6, .int .i64 ((d : Int) + 1)] := by
         show (stk L' ++ [Value.int .i64 (tr.root : Int), Value.int .i64 ((d + 1 : Nat) : Int)]) ++ [Value.int .i64 (tl.root : Int), Value.int .i64 ((d + 1 : Nat) : Int)] = _
         rw [hl, hr, List.append_assoc]
         rfl
        rw [e]
        exact HR7.out
       ·rw [List.append_assoc, ← HX.out]
        exact congrArg (pre ++ ·) (preAllD_node i d tl tr L').symm
       ·intro p hp
        rcases List.mem_cons.1 hp with rfl | hp
        ·exact ⟨t5, by simp only; omega⟩
        ·rcases List.mem_cons.1 hp with rfl | hp
         ·exact ⟨t6, by simp only; omega⟩
         ·exact HL.out p (List.mem_cons_of_mem _ hp)
       ·exact HJ.out _ _ _ HJ5.out ((StepT.of_below (below_alloc (Below.refl w5.heap.size w5) _) HS5.out).trans (StepT.of_grown HG7.out (by rw [World.size_alloc]; exact Nat.le_succ_of_le HS5.out) (fun k e => by
         obtain rfl : g = k := by simpa [Value.ownBlock] using e
         exact ⟨HG.out.1, (own_typed HR5.out g rfl).elim fun c hc => ⟨c, blk_alloc hc _⟩⟩)))
       ·exact (below_alloc HB5.out _).grown HG7.out (by rw [World.size_alloc]; exact Nat.le_succ_of_le HB5.out.size) (fun k e => by
         obtain rfl : g = k := by simpa [Value.ownBlock] using e
         have := HG.out.1
         have := hw.out.size
         have := HW.out.size
         omega)
       ·refine blk_grown (blk_alloc Bt5.out _) HG7.out (fun e => ?_)
        have eg : Bt = g := by simpa [Value.ownBlock] using e
        obtain ⟨cs, hcs⟩ := own_typed HR5.out g rfl
        rw [← eg, Bt5.out] at hcs
        injection hcs with hcs
        injection hcs with _ hcs
        exact absurd hcs (by decide)
       ·have := HG7.out.size
        rw [World.size_alloc] at this
        have := HS5.out
        omega
       ·have h1 := HK.out
        rw [preAllD_cons] at h1
        simp only [List.length_cons] at h1
        exact Nat.lt_of_succ_lt_succ h1
    ·have hinn : innN ns Tp.root = false := HIN.out.trans (by assumption)
     cases Tp with
     | node i tl tr =>
      have h := HTi.out.2.1
      rw [show innN ns i = false from hinn] at h
      cases h
     | leaf i =>
      gi_roundg k1
      case measure =>
       have := HK.out
       omega
      case rel =>
       refine ⟨L', pre ++ [(i, d)], _, m, _, rfl, HMM, HR5, ⟨?_⟩, ⟨fun p hp => HL.out p (List.mem_cons_of_mem _ hp)⟩, HJ5, HB5, Bt5, HS5, ⟨?_⟩⟩
       ·rw [List.append_assoc, ← HX.out, preAllD_cons]; rfl
       ·have h1 := HK.out
        rw [preAllD_cons] at h1
        simp only [List.length_cons] at h1
        exact Nat.lt_of_succ_lt_succ h1
theorem all_any (w : World) (t0 : Int) (A1 : Option Addr) (c1 n : Nat) : Calls Try.prog 68 #[.agg #[.int .i64 t0, .slice A1 n c1]] w fun e w' => e = .returned (.func (.func 76) #[] #[.pointer (some ⟨w.heap.size, 0, none⟩)]) ∧ w' = w.alloc (.cells #[.int .i64 t0, .slice A1 n c1] 53) := by
 go_enter Try.func68, Try.ntmps68
 go_wp2
 go_ret
 exact ⟨rfl, rfl⟩
end Go.Proofs.Ytfmjgjfbnilpoaa.FAll
