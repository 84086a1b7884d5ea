/-
 thicketref14.Of: the walk; of trees without an error it answers what OfSpec says, of its own memory.
-/
import Derived.Test.YtfmjgjfbnilpoaaZq
import Derived.Test.YtfmjgjfbnilpoaaVe
import Derived.Test.YtfmjgjfbnilpoaaRi
namespace Go.Proofs.Ytfmjgjfbnilpoaa.FAll
open Go.RowKit Go.Sort Go.Maps Go.Shelf YtfmjgjfbnilpoaaW.PrintWords YtfmjgjfbnilpoaaW.PrintLast YtfmjgjfbnilpoaaW.PrintMore BTree
attribute [local go_sem] fstore_walk
set_option linter.unusedVariables false
set_option linter.unusedSimpArgs false
theorem zeroINT (w : World) : (zeroValue 3).run Try.prog w = .ok (.int .i64 0) w := by kernel_rfl
theorem raw_list (W : World) (base : Nat) (okp : Nat → Prop) (f : Int) : (Kd.raw 4).M W base okp [.int .i64 f, .slice none 0 0, .slice none 0 0, .slice none 0 0] [.int .i64 f, .slice none 0 0, .slice none 0 0, .slice none 0 0] :=
 ⟨rfl, rfl, fun u hu => by
  have hu' : u ∈ [Value.int .i64 f, .slice none 0 0, .slice none 0 0, .slice none 0 0] := hu
  simp only [List.mem_cons, List.not_mem_nil, or_false] at hu'
  rcases hu' with rfl | rfl | rfl | rfl <;> rfl⟩
theorem infoNode8 : (Try.prog.info? 71).map (·.size) = some 8 := by kernel_rfl
theorem infoList4 : (Try.prog.info? 35).map (·.size) = some 4 := by kernel_rfl
set_option maxHeartbeats 16000000 in
set_option maxRecDepth 100000 in
theorem ref14_Of.calls (w : World) (A : Option Addr) (c : Nat) (ts : List S53) (F : Int) (hts : Aside0 (Kd.C k53 w A ts.length ts)) (hc : Aside0 (ts.length ≤ c)) (hsm : SmallU ts) (hf0 : faultV F ts = 0) :
  Calls Try.prog 9 #[.slice A ts.length c, .int .i64 F] w fun e w' => ∃ v ys, e = .returned (.tuple #[v, .int .i64 0]) ∧ OfSpec (evTo ts ts.length) ys ∧ Kd.R k35 35 w' w.heap.size (fun _ => True) v ys ∧ Below w.heap.size w w' := by
 have HB := aS_ (Below.refl w.heap.size w)
 have SM := aS_ hsm
 have GD := aS_ (fault_good hf0)
 have LN := aS_ (show ts.length ≤ 65536 from GD.out.len)
 have FN := aS_ (show ∀ y ∈ ts, TreeFine y.f1 from fun y hy => ((shapeV_spec y (hsm.nodes y hy) (fun x hx => hsm.t.cats y hy x hx)).2 (GD.out.fine y hy)).2)
 obtain ⟨ke, hke⟩ := error_f F ts hsm.t hsm.nodes
 rw [hf0] at hke
 have KE := aS_ hke
 clear hsm hf0 hke
 have hmm := @run_makeMap Try.prog
 go_enter Try.func9, Try.ntmps9
 go_wp2_with (first | (go_at_call 30; refine (thicketref14_Error.calls ke A c ts F 0 _ (Kd.C_below hts.out (kB0 HB)) hc.out KE.out).mono ?_; rintro e w3 ⟨rfl, hb⟩; have n0_ := aS_ (below_step (kB0 HB) hb); clear HB; have HB := n0_; clear n0_ hb))
 obtain ⟨bm, hbm⟩ : ∃ bm, bm = w3.heap.size := ⟨_, rfl⟩
 have OW0 := aS_ (show (w3.alloc (.map #[] 0)).ownsMap Try.prog 3 (plainElem (H := Unit) Try.prog 3) bm 0 (.map []) by rw [hbm]; exact World.ownsMap_made w3 _ _ _)
 have BG := aS_ (show w.heap.size ≤ bm by rw [hbm]; exact below_size HB.out)
 rw [← hbm]
 have HB1 := aS_ (below_alloc HB.out (.map #[] 0))
 clear hbm hmm HB KE
 go_loopg [8, 9] (ts.length + 1) (fun kq v8 v9 w' => ∃ (z : Int) (k n : Nat) (D : DataW Unit) (G : List (Int × Nat)) (V : Nat → Nat → Value) (Y X : Nat → Nat → List S56) (own : Nat → Option (Nat × Nat)) (vO : Value), vO = v8 ∧ v9 = .int .i64 z ∧ Aside0 (z = k) ∧ Aside0 (k ≤ ts.length) ∧ Aside0 (ts.length - k < kq) ∧ Aside0 (InO w G V X own w') ∧ Aside0 (OutO w G V own vO w') ∧ Aside0 (InD D G) ∧ Aside0 (w'.ownsMap Try.prog 3 (plainElem Try.prog 3) bm n D) ∧ Aside0 (RowsE (evTo ts k) G Y) ∧ Aside0 (SortX G Y X) ∧ Aside0 (G.length = n) ∧ Aside0 (n ≤ (evTo ts k).length) ∧ Aside0 (Feat (evTo ts k) G) ∧ Aside0 (CutsOk (evTo ts k)))
 case atStart => exact ⟨0, 0, 0, .map [], [], fun _ _ => .slice none 0 0, fun _ _ => [], fun _ _ => [], fun _ => none, _, rfl, rfl, ⟨rfl⟩, ⟨Nat.zero_le _⟩, ⟨by omega⟩, ⟨InO.start w _ _ _ _ HB1.out⟩, ⟨OutO.start _ _ _ _⟩, ⟨InD.start⟩, OW0, ⟨RowsE.start _⟩, ⟨fun p hp => absurd hp List.not_mem_nil⟩, ⟨rfl⟩, ⟨Nat.zero_le _⟩, ⟨fun p hp => absurd hp List.not_mem_nil⟩, ⟨fun e he => absurd he List.not_mem_nil⟩⟩
 case round =>
  clear HB1 OW0
  obtain ⟨z, k, n, D, G, V, Y, X, own, vO, hvO, rfl, hz, hk, hm, IO, OO, ID, OW, RE, SX, GL, NE, FE, CK⟩ := hrel
  subst hvO
  cases gk with
  | zero => exact absurd hm.out (by omega)
  | succ k1 =>
   by_cases hend : k < ts.length
   ·have cnd : decide (z < (ts.length : Int)) = true := decide_eq_true (by have := hz.out; omega)
    have p1' : 0 ≤ z := by have := hz.out; omega
    have p2' : z < (ts.length : Int) := by have := hz.out; omega
    obtain ⟨ad, A1, c1, rfl, e0, e1, l1, g1⟩ := at_T53 hts.out z p1' p2'
    obtain ⟨y, hy⟩ : ∃ y, y = rd_T53 ts z := ⟨_, rfl⟩
    have hy' : y = rd_T53 ts (k : Int) := by rw [hy, hz.out]
    have YM := aS_ (show y ∈ ts by rw [hy']; exact rdT_mem ts k hend)
    rw [← hy] at e0 e1 l1 g1
    have YE := aS_ (show evTo ts (k + 1) = evTo ts k ++ evT k y by rw [evTo_succ, hy'])
    have EL := aS_ (show (evTo ts k).length ≤ 4095 * k from evTo_len GD.out FN.out k (by omega))
    have E1 := aS_ e1
    replace e0 := cB_ IO.out.below e0
    replace e1 := cB_ IO.out.below e1
    have L1 := aS_ l1
    have GW := aS_ g1
    have p1 := eq_true p1'
    have p2 := eq_true p2'
    have NL := aS_ hend
    have wz : wrap64 (z + 1) = ((k + 1 : Nat) : Int) := by have := hz.out; have := LN.out; unfold wrap64; omega
    have FY := aS_ (FN.out y YM.out)
    obtain ⟨km, hkm⟩ := marks_f y (SM.out.nodes y YM.out) (fun x hx => SM.out.t.cats y YM.out x hx) (GD.out.fine y YM.out) (GD.out.few y YM.out)
    have TV := aS_ (treeV_is FY.out)
    obtain ⟨ms, hms⟩ : ∃ ms, ms = BT.marks (treeV y.f1) 0 := ⟨_, rfl⟩
    rw [← hms] at hkm
    have MS := aS_ hms
    have ML := aS_ (show ms.length ≤ 4095 by rw [hms]; exact marks_few FY.out (GD.out.few y YM.out))
    have KM := aS_ hkm
    clear hy hy' l1 g1 p1' p2' hend hkm hms
    go_upto_region 10 with (first | (go_at_call 31; refine (thicketref13_Marks.calls km y.f0 A1 c1 y.f1 ms 0 _ (Kd.C_below GW.out IO.out.below) L1.out KM.out).mono ?_; rintro e w5 ⟨vm, rfl, hr, hb⟩; obtain ⟨AM, cM, rfl, _, _⟩ := Kd.R_reads hr; have RM := aS_ (Kd.R_lower hr (below_size IO.out.below)); have m1_ := aS_ (IO.out.step hb); have m2_ := aS_ (OO.out.step hb); have m3_ := aS_ (OW.out.kept (grown_of_below hb none) (by simp)); clear IO OO OW; have IO := m1_; have OO := m2_; have OW := m3_; clear m1_ m2_ m3_ hb hr))
    clear e0 e1
    go_wp2
    go_loopg [8, 12] (ms.length + 1) (fun kq v8 v12 w' => ∃ (zj : Int) (j n : Nat) (D : DataW Unit) (G : List (Int × Nat)) (V : Nat → Nat → Value) (Y X : Nat → Nat → List S56) (own : Nat → Option (Nat × Nat)) (vO : Value), vO = v8 ∧ v12 = .int .i64 zj ∧ Aside0 (zj = j) ∧ Aside0 (j ≤ ms.length) ∧ Aside0 (ms.length - j < kq) ∧ Aside0 (InO w G V X own w') ∧ Aside0 (OutO w G V own vO w') ∧ Aside0 (InD D G) ∧ Aside0 (w'.ownsMap Try.prog 3 (plainElem Try.prog 3) bm n D) ∧ Aside0 (RowsE (evTo ts k ++ (ms.take j).map (evM k y.f1)) G Y) ∧ Aside0 (SortX G Y X) ∧ Aside0 (G.length = n) ∧ Aside0 (n ≤ (evTo ts k).length + j) ∧ Aside0 (Feat (evTo ts k ++ (ms.take j).map (evM k y.f1)) G) ∧ Aside0 (CutsOk (evTo ts k ++ (ms.take j).map (evM k y.f1))) ∧ Aside0 (Kd.R k58 58 w' w.heap.size (fun _ => True) (.slice AM ms.length cM) ms))
    case atStart => exact ⟨0, 0, n, D, G, V, Y, X, own, vO, rfl, rfl, ⟨rfl⟩, ⟨Nat.zero_le _⟩, ⟨by omega⟩, IO, OO, ID, OW, ⟨by rw [List.take_zero, List.map_nil, List.append_nil]; exact RE.out⟩, SX, GL, ⟨NE.out⟩, ⟨by rw [List.take_zero, List.map_nil, List.append_nil]; exact FE.out⟩, ⟨by rw [List.take_zero, List.map_nil, List.append_nil]; exact CK.out⟩, RM⟩
    case round =>
     clear IO OO ID OW RE SX GL NE FE CK RM
     obtain ⟨zj, j, n, D, G, V, Y, X, own, vO, hvO, rfl, hj, hjl, hm2, IO, OO, ID, OW, RE, SX, GL, NE, FE, CK, RM⟩ := hrel
     subst hvO
     cases gk with
     | zero => exact absurd hm2.out (by omega)
     | succ k2 =>
      by_cases hend : j < ms.length
      ·have cnd2 : decide (zj < (ms.length : Int)) = true := decide_eq_true (by have := hj.out; omega)
       have q1' : 0 ≤ zj := by have := hj.out; omega
       have q2' : zj < (ms.length : Int) := by have := hj.out; omega
       obtain ⟨am, rfl, m0, m1, m2⟩ := at_T58 (Kd.R_reads' RM.out).2.2 zj q1' q2'
       obtain ⟨m, hmm⟩ : ∃ m, m = rd_T58 ms zj := ⟨_, rfl⟩
       have hmj : m = ms[j] := by
        rw [hmm, hj.out]
        unfold rd_T58
        rw [Int.toNat_natCast, List.getD_eq_getElem?_getD, List.getElem?_eq_getElem hend]
        rfl
       rw [← hmm] at m0 m1 m2
       have MN := aS_ (marks_node (ns := y.f1) (treeV y.f1) 0 TV.out.is m (by rw [← MS.out, hmj]; exact List.getElem_mem hend))
       have r1' := MN.out.1
       have r2' := MN.out.2.1
       obtain ⟨an, A4, c4, rfl, f0, f1, f2, f3, f4, f5, f6, f7, l4, g4⟩ := at_T71 GW.out m.f0 r1' r2'
       obtain ⟨x, hx⟩ : ∃ x, x = rd_T71 y.f1 m.f0 := ⟨_, rfl⟩
       rw [← hx] at f0 f1 f2 f3 f4 f5 f6 f7 l4 g4
       have XM := aS_ (show x ∈ y.f1 by rw [hx]; exact rdN_mem r1' r2')
       have EVJ := aS_ (show (ms.take (j + 1)).map (evM k y.f1) = (ms.take j).map (evM k y.f1) ++ [(x, (⟨x.f3, x.f4, (k : Int), m.f1, m.f2⟩ : S56))] by
        rw [List.take_succ_eq_append_getElem hend, List.map_append, ← hmj]
        simp only [List.map_cons, List.map_nil, evM, ← hx])
       have e1 := cB_ IO.out.below E1.out
       replace f0 := cB_ IO.out.below f0
       replace f1 := cB_ IO.out.below f1
       replace f2 := cB_ IO.out.below f2
       replace f3 := cB_ IO.out.below f3
       replace f4 := cB_ IO.out.below f4
       replace f5 := cB_ IO.out.below f5
       replace f6 := cB_ IO.out.below f6
       replace f7 := cB_ IO.out.below f7
       have p1 : (0 ≤ z) = True := eq_true (by have := hz.out; omega)
       have p2 : (z < (ts.length : Int)) = True := eq_true (by have := hz.out; have := NL.out; omega)
       have q1 := eq_true q1'
       have q2 := eq_true q2'
       have r1 := eq_true r1'
       have r2 := eq_true r2'
       have L4 := aS_ l4
       have G4 := aS_ g4
       have KX := aS_ (show x.f0 = 2 ∨ x.f0 = 3 by
        have h_ := MN.out.2.2
        unfold innN at h_
        rw [Int.toNat_of_nonneg r1', ← hx] at h_
        exact inner_kind h_)
       have RX := aS_ (show rightB x (y.f1.length : Int) = true by
        have h_ := FY.out.fit m.f0.toNat (by omega)
        rw [Int.toNat_of_nonneg r1', ← hx] at h_
        exact h_)
       have HKEY := aS_ (show keyOf Try.prog 3 (.int .i64 x.f2) = some (.int .i64 x.f2) by
        refine keyOf_int_mk Try.underlying3 ?_
        have h2_ := right_feat RX.out (by have := KX.out; omega)
        simp [Lit.wf, IntKind.min, IntKind.max, IntKind.signed, IntKind.bits]
        omega)
       have BX_ := aS_ (show x.f3 < 2 ^ 64 from SM.out.bits y YM.out x XM.out)
       have CK' := aS_ (show CutsOk (evTo ts k ++ (ms.take (j + 1)).map (evM k y.f1)) by
        rw [EVJ.out, ← List.append_assoc]
        exact CK.out.snoc BX_.out (fun h_ => right_num RX.out BX_.out (by have := KX.out; have h2_ : x.f0 ≠ 3 := h_; omega)))
       have JL := aS_ hend
       have wj : wrap64 (zj + 1) = ((j + 1 : Nat) : Int) := by have := hj.out; have := ML.out; unfold wrap64; omega
       clear hmm hmj hx q1' q2' r1' r2' l4 g4 hend
       go_wp2
       refine start_ (n := 14) (S := fun w' => w'.cell? ⟨(ad.add (z.toNat * 2)).block, (ad.add (z.toNat * 2)).off + 1, none⟩ = some (.slice (some an) y.f1.length c1) ∧ w'.cell? (am.add (zj.toNat * 3)) = some (.int .i64 m.f0) ∧ w'.cell? (an.add (m.f0.toNat * 8)) = some (.int .u8 x.f0) ∧ w'.cell? ⟨(an.add (m.f0.toNat * 8)).block, (an.add (m.f0.toNat * 8)).off + 1, none⟩ = some (.int .i64 x.f1) ∧ w'.cell? ⟨(an.add (m.f0.toNat * 8)).block, (an.add (m.f0.toNat * 8)).off + 2, none⟩ = some (.int .i64 x.f2) ∧ w'.cell? ⟨(an.add (m.f0.toNat * 8)).block, (an.add (m.f0.toNat * 8)).off + 3, none⟩ = some (.float .f64 x.f3) ∧ w'.cell? ⟨(an.add (m.f0.toNat * 8)).block, (an.add (m.f0.toNat * 8)).off + 4, none⟩ = some (.slice A4 x.f4.length c4) ∧ w'.cell? ⟨(an.add (m.f0.toNat * 8)).block, (an.add (m.f0.toNat * 8)).off + 5, none⟩ = some (.int .u8 x.f5) ∧ w'.cell? ⟨(an.add (m.f0.toNat * 8)).block, (an.add (m.f0.toNat * 8)).off + 6, none⟩ = some (.int .i64 x.f6) ∧ w'.cell? ⟨(an.add (m.f0.toNat * 8)).block, (an.add (m.f0.toNat * 8)).off + 7, none⟩ = some (.int .i64 x.f7)) (ds := [13]) #[false, false, false, false, false, false, false, false, false, false, false, false, false, false] (by kernel_rfl) rfl rfl ⟨e1, m0, f0, f1, f2, f3, f4, f5, f6, f7⟩ (fun hHeld => ?_)
       refine pq_ (v := ?_) (b := ?_) (m := ?_) 0 (some 46) ?_
       refine pq_ (v := ?_) (b := ?_) (m := ?_) 1 (some 47) ?_
       refine pq_ (v := ?_) (b := ?_) (m := ?_) 2 (some 48) ?_
       refine pq_ (v := ?_) (b := ?_) (m := ?_) 3 (some 49) ?_
       refine pq_ (v := ?_) (b := ?_) (m := ?_) 5 (some 51) ?_
       refine pq_ (v := ?_) (b := ?_) (m := ?_) 6 (some 52) ?_
       refine pq_ (v := ?_) (b := ?_) (m := ?_) 7 (some 53) ?_
       refine pq_ (v := ?_) (b := ?_) (m := ?_) 8 (some 54) ?_
       refine tq_ (v := ?_) (b := ?_) (m := ?_) 4 (some 50) hHeld ?_
       refine tq_ (v := ?_) (b := ?_) (m := ?_) 9 (some 55) hHeld ?_
       refine pq_ (v := ?_) (b := ?_) (m := ?_) 10 (some 56) ?_
       refine tq_ (v := ?_) (b := ?_) (m := ?_) 11 (some 57) hHeld ?_
       refine oq_ (m := ?_) 12 (some 13) fun K hK => ?_
       refine vq_ (v := ?_) (w1 := ?_) ?_
       refine hK.out _ _ ⟨(cB_ (below_alloc (Below.refl _ _) _) hHeld.1), (cB_ (below_alloc (Below.refl _ _) _) hHeld.2.1), (cB_ (below_alloc (Below.refl _ _) _) hHeld.2.2.1), (cB_ (below_alloc (Below.refl _ _) _) hHeld.2.2.2.1), (cB_ (below_alloc (Below.refl _ _) _) hHeld.2.2.2.2.1), (cB_ (below_alloc (Below.refl _ _) _) hHeld.2.2.2.2.2.1), (cB_ (below_alloc (Below.refl _ _) _) hHeld.2.2.2.2.2.2.1), (cB_ (below_alloc (Below.refl _ _) _) hHeld.2.2.2.2.2.2.2.1), (cB_ (below_alloc (Below.refl _ _) _) hHeld.2.2.2.2.2.2.2.2.1), (cB_ (below_alloc (Below.refl _ _) _) hHeld.2.2.2.2.2.2.2.2.2)⟩ (fun hHeld => ?_)
       clear hK K
       refine nq_ (b := ?_) (some 13) ?_
       refine lq_ (m := ?_) 13 none fun K hK => ?_
       refine boxStore_ (.tmp 13) (.tmp 57) wr.heap.size 71 #[.int .u8 0, .int .i64 0, .int .i64 0, .float .f64 0, .slice none 0 0, .int .u8 0, .int .i64 0, .int .i64 0] #[.int .u8 x.f0, .int .i64 x.f1, .int .i64 x.f2, .float .f64 x.f3, .slice A4 x.f4.length c4, .int .u8 x.f5, .int .i64 x.f6, .int .i64 x.f7] (blk_new wr.drew _) (by rfl) rfl rfl rfl rfl rfl infoNode8 (by simp [Value.oneCell']) ?_
       intro w6 hbox6 hg6
       refine hK.out _ _ ?_
       clear hK K
       refine done_ (by kernel_rfl) ?_
       obtain ⟨gn, hgn⟩ : ∃ gn, gn = wr.heap.size := ⟨_, rfl⟩
       rw [← hgn] at hbox6 hg6 ⊢
       have hb6 : Below wr.heap.size wr w6 := below_new (w0 := wr) (below_alloc (below_drew (Below.refl _ _)) _) hg6 (Nat.le_of_eq hgn.symm)
       obtain ⟨own1, ho1⟩ : ∃ own1, own1 = reown own wr.heap.size (0, 5) := ⟨_, rfl⟩
       have HX := aS_ (show ∀ b, wr.heap.size ≤ b → own1 b = some (0, 5) from fun b hb => by rw [ho1]; exact retag_new hb)
       have BN := aS_ hbox6
       have TN := aS_ (show own1 gn = some (0, 5) from HX.out gn (Nat.le_of_eq hgn.symm))
       have n1_ := aS_ (show InO w G V X own1 w6 by rw [ho1]; exact (IO.out.retag (0, 5)).step hb6)
       have n2_ := aS_ (show OutO w G V own1 vO w6 by rw [ho1]; exact (OO.out.retag (0, 5)).step hb6)
       have n3_ := aS_ (OW.out.kept (grown_of_below hb6 none) (by simp))
       have n4_ := aS_ (Kd.R_below RM.out hb6)
       have SZ := aS_ hb6.size
       replace m1 := cB_ hb6 m1
       replace m2 := cB_ hb6 m2
       clear IO OO OW RM f0 f1 f2 f3 f4 f5 f6 f7 m0 e1 hbox6 hg6 hb6 hgn ho1 p1 p2 r1 r2
       have IO := n1_
       have OO := n2_
       have OW := n3_
       have RM := n4_
       clear n1_ n2_ n3_ n4_
       go_wp2
       have C14 : w6.cell? ⟨gn, 3, none⟩ = some (.float .f64 x.f3) ∧ w6.cell? ⟨gn, 4, none⟩ = some (.slice A4 x.f4.length c4) ∧ w6.cell? ⟨(am.add (zj.toNat * 3)).block, (am.add (zj.toNat * 3)).off + 1, none⟩ = some (.int .i64 m.f1) ∧ w6.cell? ⟨(am.add (zj.toNat * 3)).block, (am.add (zj.toNat * 3)).off + 2, none⟩ = some (.int .i64 m.f2) := ⟨(blk_cell BN.out 3).trans rfl, (blk_cell BN.out 4).trans rfl, m1, m2⟩
       have CL4 := aS_ (show x.f4.length * 8 ≤ 140737488355328 from SM.out.cats y YM.out x XM.out)
       refine start_ (n := 20) (S := fun w' => w'.cell? ⟨gn, 3, none⟩ = some (.float .f64 x.f3) ∧ w'.cell? ⟨gn, 4, none⟩ = some (.slice A4 x.f4.length c4) ∧ w'.cell? ⟨(am.add (zj.toNat * 3)).block, (am.add (zj.toNat * 3)).off + 1, none⟩ = some (.int .i64 m.f1) ∧ w'.cell? ⟨(am.add (zj.toNat * 3)).block, (am.add (zj.toNat * 3)).off + 2, none⟩ = some (.int .i64 m.f2)) (ds := [19]) #[false, false, false, false, false, false, false, false, false, false, false, false, false, false, false, false, false, false, false, false] (by kernel_rfl) rfl rfl ⟨C14.1, C14.2.1, C14.2.2.1, C14.2.2.2⟩ (fun hHeld => ?_)
       refine pq_ (v := ?_) (b := ?_) (m := ?_) 0 (some 58) ?_
       refine pq_ (v := ?_) (b := ?_) (m := ?_) 3 (some 61) ?_
       refine pq_ (v := ?_) (b := ?_) (m := ?_) 6 (some 64) ?_
       refine pq_ (v := ?_) (b := ?_) (m := ?_) 7 (some 65) ?_
       refine pq_ (v := ?_) (b := ?_) (m := ?_) 8 (some 66) ?_
       refine pq_ (v := ?_) (b := ?_) (m := ?_) 9 (some 67) ?_
       refine pq_ (v := ?_) (b := ?_) (m := ?_) 10 (some 68) ?_
       refine pq_ (v := ?_) (b := ?_) (m := ?_) 12 (some 70) ?_
       refine pq_ (v := ?_) (b := ?_) (m := ?_) 13 (some 71) ?_
       refine pq_ (v := ?_) (b := ?_) (m := ?_) 14 (some 72) ?_
       refine pq_ (v := ?_) (b := ?_) (m := ?_) 15 (some 73) ?_
       refine tq_ (v := ?_) (b := ?_) (m := ?_) 1 (some 59) hHeld ?_
       refine tq_ (v := ?_) (b := ?_) (m := ?_) 4 (some 62) hHeld ?_
       refine tq_ (v := ?_) (b := ?_) (m := ?_) 11 (some 69) hHeld ?_
       refine tq_ (v := ?_) (b := ?_) (m := ?_) 16 (some 74) hHeld ?_
       refine join_ (σ := Nat × (Option Addr × Nat) × Nat) 1 #[true, true, true, true, true, true, true, true, true, true, true, true, true, true, true, true, true, true, true, false] (fun s_ => [(60, .slice (some ⟨s_.1, 0, none⟩) 0 0), (63, .slice s_.2.1.1 x.f4.length s_.2.1.2), (75, .agg #[.float .f64 x.f3, .slice s_.2.1.1 x.f4.length s_.2.1.2, .int .i64 z, .int .i64 m.f1, .int .i64 m.f2]), (14, .pointer (some ⟨s_.2.2, 0, none⟩))]) (fun s_ w' => Got w6 x.f4 #[.float .f64 0, .slice none 0 0, .int .i64 0, .int .i64 0, .int .i64 0] 56 (.slice s_.2.1.1 x.f4.length s_.2.1.2) s_.2.2 w') ?_ ?_
       rotate_left
       ·intro hCont
        refine two_ (i := 2) (j := 18) (Ni := some 60) (Nj := some 14) #[true, true, true, true, true, false, true, true, true, true, true, true, true, true, true, true, true, false, false, false] #[true, true, false, true, true, false, true, true, true, true, true, true, true, true, true, true, true, false, true, false] rfl rfl rfl rfl (by kernel_rfl) (by decide) (by decide) (fun K hK => ?_) (fun K hK => ?_)
        ·skip
         refine vq_ (v := ?_) (w1 := ?_) ?_
         refine hK.out _ _ ⟨(cB_ (below_alloc (Below.refl _ _) _) hHeld.1), (cB_ (below_alloc (Below.refl _ _) _) hHeld.2.1), (cB_ (below_alloc (Below.refl _ _) _) hHeld.2.2.1), (cB_ (below_alloc (Below.refl _ _) _) hHeld.2.2.2)⟩ (fun hHeld => ?_)
         clear hK K
         refine nq_ (b := ?_) (some 60) ?_
         refine two_ (i := 5) (j := 18) (Ni := some 63) (Nj := some 14) #[true, true, true, true, true, true, true, true, true, true, true, true, true, true, true, true, true, false, false, false] #[true, true, true, true, true, false, true, true, true, true, true, true, true, true, true, true, true, false, true, false] rfl rfl rfl rfl (by kernel_rfl) (by decide) (by decide) (fun K hK => ?_) (fun K hK => ?_)
         ·skip
          refine Kd.R_append_rows_step (W := (w6.drew.alloc (.cells #[] 3))) (Kd.int .i64) (w0 := w6) w6.heap.size (by rfl) (.tmp 60) (.tmp 62) 54 3 (.int .i64 0) 8 (by rfl) Try.underlying54 infoINT rfl (by decide) (by decide) (.slice (some ⟨w6.heap.size, 0, none⟩) 0 0) ([] : List Int) x.f4 A4 x.f4.length c4 (fun _ => True) (fun _ => False) (by rfl) (by rfl) (R_empty (blk_new w6.drew _) (Nat.le_refl _) trivial) (Kd.C_below G4.out (below_alloc (below_drew IO.out.below) _)) (fun _ _ h => h) (fun _ h => h.elim) (fun _ _ => trivial) (below_alloc (below_drew (Below.refl w6.heap.size w6)) _) (below_size (below_alloc (below_drew (Below.refl w6.heap.size w6)) _)) (by have := CL4.out; simp only [List.length_nil]; omega) ?_
          intro v3 w14 ho hb hg hat
          rw [List.nil_append] at ho
          obtain ⟨Ac, cc, rfl, _, _⟩ := Kd.R_reads ho
          refine hK.out _ _ ⟨(cB_ hb C14.1), (cB_ hb C14.2.1), (cB_ hb C14.2.2.1), (cB_ hb C14.2.2.2)⟩ (fun hHeld => ?_)
          clear hK K
          refine nq_ (b := ?_) (some 63) ?_
          refine pq_ (v := ?_) (b := ?_) (m := ?_) 17 (some 75) ?_
          refine oq_ (m := ?_) 18 (some 14) fun K hK => ?_
          refine vq_ (v := ?_) (w1 := ?_) ?_
          refine hK.out _ _ ⟨(cB_ (below_alloc (Below.refl _ _) _) hHeld.1), (cB_ (below_alloc (Below.refl _ _) _) hHeld.2.1), (cB_ (below_alloc (Below.refl _ _) _) hHeld.2.2.1), (cB_ (below_alloc (Below.refl _ _) _) hHeld.2.2.2)⟩ (fun hHeld => ?_)
          clear hK K
          refine nq_ (b := ?_) (some 14) ?_
          exact norm_ (by simp only [putAll, Act.put, List.setIfInBounds_toArray, List.set_cons_zero, List.set_cons_succ]) (hCont (w6.heap.size, (Ac, cc), w14.heap.size) _ (got_last ho hb _ _))
         ·skip
          refine vq_ (v := ?_) (w1 := ?_) ?_
          refine hK.out _ _ ⟨(cB_ (below_alloc (Below.refl _ _) _) hHeld.1), (cB_ (below_alloc (Below.refl _ _) _) hHeld.2.1), (cB_ (below_alloc (Below.refl _ _) _) hHeld.2.2.1), (cB_ (below_alloc (Below.refl _ _) _) hHeld.2.2.2)⟩ (fun hHeld => ?_)
          clear hK K
          refine nq_ (b := ?_) (some 14) ?_
          refine oq_ (m := ?_) 5 (some 63) fun K hK => ?_
          refine Kd.R_append_rows_step (W := ((w6.drew.alloc (.cells #[] 3)).alloc (.cells #[.float .f64 0, .slice none 0 0, .int .i64 0, .int .i64 0, .int .i64 0] 56))) (Kd.int .i64) (w0 := w6) w6.heap.size (by rfl) (.tmp 60) (.tmp 62) 54 3 (.int .i64 0) 8 (by rfl) Try.underlying54 infoINT rfl (by decide) (by decide) (.slice (some ⟨w6.heap.size, 0, none⟩) 0 0) ([] : List Int) x.f4 A4 x.f4.length c4 (fun k => k ≠ w6.heap.size + 1) (fun _ => False) (by rfl) (by rfl) (R_empty (blk_alloc (blk_new w6.drew _) _) (Nat.le_refl _) (by show w6.heap.size ≠ w6.heap.size + 1; omega)) (Kd.C_below G4.out (below_alloc (below_alloc (below_drew IO.out.below) _) _)) (fun _ _ h => h) (fun _ h => h.elim) (fun k hk => by simp only [World.size_alloc] at hk; have h_ : w6.drew.heap.size = w6.heap.size := rfl; show k ≠ _; omega) (below_alloc (below_alloc (below_drew (Below.refl w6.heap.size w6)) _) _) (below_size (below_alloc (below_alloc (below_drew (Below.refl w6.heap.size w6)) _) _)) (by have := CL4.out; simp only [List.length_nil]; omega) ?_
          intro v3 w14 ho hb hg hat
          rw [List.nil_append] at ho
          obtain ⟨Ac, cc, rfl, _, _⟩ := Kd.R_reads ho
          refine hK.out _ _ ⟨(cB_ hb C14.1), (cB_ hb C14.2.1), (cB_ hb C14.2.2.1), (cB_ hb C14.2.2.2)⟩ (fun hHeld => ?_)
          clear hK K
          refine nq_ (b := ?_) (some 63) ?_
          refine pq_ (v := ?_) (b := ?_) (m := ?_) 17 (some 75) ?_
          exact norm_ (by simp only [putAll, Act.put, List.setIfInBounds_toArray, List.set_cons_zero, List.set_cons_succ]) (hCont (w6.heap.size, (Ac, cc), w6.heap.size + 1) _ (got_ahead ho hb _ _ hg (blk_second w6.drew _ _) (fun e => by have h_ : (some w6.heap.size : Option Nat) = some (w6.heap.size + 1) := e; injection h_ with h_; omega) (Nat.le_succ _)))
        ·skip
         refine vq_ (v := ?_) (w1 := ?_) ?_
         refine hK.out _ _ ⟨(cB_ (below_alloc (Below.refl _ _) _) hHeld.1), (cB_ (below_alloc (Below.refl _ _) _) hHeld.2.1), (cB_ (below_alloc (Below.refl _ _) _) hHeld.2.2.1), (cB_ (below_alloc (Below.refl _ _) _) hHeld.2.2.2)⟩ (fun hHeld => ?_)
         clear hK K
         refine nq_ (b := ?_) (some 14) ?_
         refine oq_ (m := ?_) 2 (some 60) fun K hK => ?_
         refine vq_ (v := ?_) (w1 := ?_) ?_
         refine hK.out _ _ ⟨(cB_ (below_alloc (Below.refl _ _) _) hHeld.1), (cB_ (below_alloc (Below.refl _ _) _) hHeld.2.1), (cB_ (below_alloc (Below.refl _ _) _) hHeld.2.2.1), (cB_ (below_alloc (Below.refl _ _) _) hHeld.2.2.2)⟩ (fun hHeld => ?_)
         clear hK K
         refine nq_ (b := ?_) (some 60) ?_
         refine oq_ (m := ?_) 5 (some 63) fun K hK => ?_
         refine Kd.R_append_rows_step (W := ((w6.drew.alloc (.cells #[.float .f64 0, .slice none 0 0, .int .i64 0, .int .i64 0, .int .i64 0] 56)).alloc (.cells #[] 3))) (Kd.int .i64) (w0 := w6) w6.heap.size (by rfl) (.tmp 60) (.tmp 62) 54 3 (.int .i64 0) 8 (by rfl) Try.underlying54 infoINT rfl (by decide) (by decide) (.slice (some ⟨(w6.heap.size + 1), 0, none⟩) 0 0) ([] : List Int) x.f4 A4 x.f4.length c4 (fun k => k ≠ w6.heap.size) (fun _ => False) (by rfl) (by rfl) (R_empty (blk_second w6.drew _ _) (Nat.le_succ _) (by show w6.heap.size + 1 ≠ w6.heap.size; omega)) (Kd.C_below G4.out (below_alloc (below_alloc (below_drew IO.out.below) _) _)) (fun _ _ h => h) (fun _ h => h.elim) (fun k hk => by simp only [World.size_alloc] at hk; have h_ : w6.drew.heap.size = w6.heap.size := rfl; show k ≠ _; omega) (below_alloc (below_alloc (below_drew (Below.refl w6.heap.size w6)) _) _) (below_size (below_alloc (below_alloc (below_drew (Below.refl w6.heap.size w6)) _) _)) (by have := CL4.out; simp only [List.length_nil]; omega) ?_
         intro v3 w14 ho hb hg hat
         rw [List.nil_append] at ho
         obtain ⟨Ac, cc, rfl, _, _⟩ := Kd.R_reads ho
         refine hK.out _ _ ⟨(cB_ hb C14.1), (cB_ hb C14.2.1), (cB_ hb C14.2.2.1), (cB_ hb C14.2.2.2)⟩ (fun hHeld => ?_)
         clear hK K
         refine nq_ (b := ?_) (some 63) ?_
         refine pq_ (v := ?_) (b := ?_) (m := ?_) 17 (some 75) ?_
         exact norm_ (by simp only [putAll, Act.put, List.setIfInBounds_toArray, List.set_cons_zero, List.set_cons_succ]) (hCont (w6.heap.size + 1, (Ac, cc), w6.heap.size) _ (got_ahead ho hb _ _ hg (blk_alloc (blk_new w6.drew _) _) (fun e => by have h_ : (some (w6.heap.size + 1) : Option Nat) = some w6.heap.size := e; injection h_ with h_; omega) (Nat.le_refl _)))
       rintro ⟨b0_, ⟨Ac, cc⟩, gc⟩ w14 GT
       have hHeld : w14.cell? ⟨gn, 3, none⟩ = some (.float .f64 x.f3) ∧ w14.cell? ⟨gn, 4, none⟩ = some (.slice A4 x.f4.length c4) ∧ w14.cell? ⟨(am.add (zj.toNat * 3)).block, (am.add (zj.toNat * 3)).off + 1, none⟩ = some (.int .i64 m.f1) ∧ w14.cell? ⟨(am.add (zj.toNat * 3)).block, (am.add (zj.toNat * 3)).off + 2, none⟩ = some (.int .i64 m.f2) := ⟨(cB_ GT.below C14.1), (cB_ GT.below C14.2.1), (cB_ GT.below C14.2.2.1), (cB_ GT.below C14.2.2.2)⟩
       refine norm_ (a' := ?_) ?_ ?_
       rotate_left
       ·simp only [putAll, Act.put, List.setIfInBounds_toArray, List.set_cons_zero, List.set_cons_succ]
        rfl
       refine lq_ (m := ?_) 19 none fun K hK => ?_
       refine boxStore_ (.tmp 14) (.tmp 75) gc 56 #[.float .f64 0, .slice none 0 0, .int .i64 0, .int .i64 0, .int .i64 0] #[.float .f64 x.f3, .slice Ac x.f4.length cc, .int .i64 z, .int .i64 m.f1, .int .i64 m.f2] GT.box (by rfl) rfl rfl rfl rfl rfl infoRcC (by simp [Value.oneCell']) ?_
       intro w7 hbox7 hg7
       refine hK.out _ _ ?_
       clear hK K
       refine done_ (by kernel_rfl) ?_
       have hb7 : Below w6.heap.size w6 w7 := below_new GT.below hg7 GT.ge
       have BC := aS_ hbox7
       have TC := aS_ (show own1 gc = some (0, 5) from HX.out gc (Nat.le_trans SZ.out GT.ge))
       have RI := aS_ (show (Kd.int .i64).R 3 w7 w.heap.size (fun q => own1 q = some (0, 5) ∧ q ≠ gc) (.slice Ac x.f4.length cc) x.f4 from
        Kd.R_lower (Kd.R_grown (Kd.R_mono (Kd.R_bound GT.row) (fun q hq => ⟨HX.out q (Nat.le_trans SZ.out hq.2.1), hq.1⟩)) hg7 (fun q hq e => hq.2 (Option.some.inj e))) (below_size IO.out.below))
       have n1_ := aS_ (IO.out.step hb7)
       have n2_ := aS_ (OO.out.step hb7)
       have n3_ := aS_ (OW.out.kept (grown_of_below hb7 none) (by simp))
       have n4_ := aS_ (Kd.R_below RM.out hb7)
       have n5_ := aS_ (blk_below BN.out hb7)
       have n6_ := aS_ (fun b (h_ : w7.heap.size ≤ b) => HX.out b (Nat.le_trans SZ.out (Nat.le_trans hb7.size h_)))
       clear IO OO OW RM BN HX SZ GT hbox7 hg7 hb7 m1 m2 C14 hHeld
       have IO := n1_
       have OO := n2_
       have OW := n3_
       have RM := n4_
       have BN := n5_
       have HX := n6_
       clear n1_ n2_ n3_ n4_ n5_ n6_
       obtain ⟨own, ho⟩ : ∃ own, own = own1 := ⟨_, rfl⟩
       rw [← ho] at IO OO TC RI HX
       clear ho TN own1
       have hn1 := blk8 BN.out
       go_upto_if 80 with (first | (at_lookup; refine wpList_lookup_own_int _ rfl _ _ 79 rfl 3 3 .i64 lawI Try.underlying79 Try.underlying3 (zeroINT _) bm n D rfl OW.out _ (.int .i64 x.f2) rfl HKEY.out ?_; intro cz hat hwc; have PL := aS_ (ID.out.place (fun p hp => IO.out.pos hp) hat); obtain ⟨cb, hcb⟩ : ∃ cb : Bool, (cz == 0) = cb := ⟨_, rfl⟩; have CB := aS_ hcb; clear hat hwc))
       go_cut [8] from 43 to 130 (fun s_ wc => ∃ (g n : Nat) (D : DataW Unit) (G : List (Int × Nat)) (V : Nat → Nat → Value) (Y X : Nat → Nat → List S56) (own : Nat → Option (Nat × Nat)) (vO : Value), vO = s_ ∧ Aside0 ((x.f2, g) ∈ G) ∧ Aside0 (InO w G V X own wc) ∧ Aside0 (OutO w G V own vO wc) ∧ Aside0 (InD D G) ∧ Aside0 (wc.ownsMap Try.prog 3 (plainElem Try.prog 3) bm n D) ∧ Aside0 (RowsE (evTo ts k ++ (ms.take j).map (evM k y.f1)) G Y) ∧ Aside0 (SortX G Y X) ∧ Aside0 (G.length = n) ∧ Aside0 (n ≤ (evTo ts k).length + (j + 1)) ∧ Aside0 (Feat1 x.f2 (evTo ts k ++ (ms.take j).map (evM k y.f1)) G) ∧ Aside0 (Kd.R k58 58 wc w.heap.size (fun _ => True) (.slice (some am) ms.length cM) ms) ∧ Aside0 (wc.heap[gn]? = some (.cells #[.int .u8 x.f0, .int .i64 x.f1, .int .i64 x.f2, .float .f64 x.f3, .slice A4 x.f4.length c4, .int .u8 x.f5, .int .i64 x.f6, .int .i64 x.f7] 71 (0, 0))) ∧ Aside0 (wc.heap[gc]? = some (.cells #[.float .f64 x.f3, .slice Ac x.f4.length cc, .int .i64 z, .int .i64 m.f1, .int .i64 m.f2] 56 (0, 0))) ∧ Aside0 (own gc = some (0, 5)) ∧ Aside0 ((Kd.int .i64).R 3 wc w.heap.size (fun q => own q = some (0, 5) ∧ q ≠ gc) (.slice Ac x.f4.length cc) x.f4))
       case first =>
        have VO := aS_ (show ∀ b, vO.ownBlock = some b → own b = some (0, 3) from OO.out.tag)
        rcases PL.out with ⟨hz0, hmi⟩ | ⟨g, hzg, h1g, hmem⟩
        ·have MI := aS_ hmi
         have hcbt : cb = true := by rw [← CB.out, hz0]; rfl
         subst hcbt
         clear PL CB hz0 hmi
         have OR := aS_ (OO.out.retag (0, 3)).row
         have GE := aS_ (show G.length ≤ 268369920 by have := GL.out; have := NE.out; have := EL.out; have := JL.out; have := ML.out; have := LN.out; have := NL.out; omega)
         go_wp2_with (first | ((with_reducible refine gate_builtin (b := .append) (xs := #[.tmp 81, .tmp 85]) rfl ?_); at_builtin; refine Kd.R_append (Kd.raw 4) (w0 := w) w.heap.size rfl (.tmp 81) (.tmp 85) 24 35 (.agg #[.int .i64 0, .slice none 0 0, .slice none 0 0, .slice none 0 0]) 80 rfl Try.underlying24 infoList rfl (by decide) (by decide) vO (G.map (outC V)) [.int .i64 x.f2, .slice none 0 0, .slice none 0 0, .slice none 0 0] [.int .i64 x.f2, .slice none 0 0, .slice none 0 0, .slice none 0 0] (fun q => reown own w7.heap.size (0, 3) q = some (0, 3)) (fun _ => False) rfl rfl (raw_list _ _ _ _) (fun _ h => h.elim) (fun q hq => retag_new hq) OR.out IO.out.below (below_size IO.out.below) (by have := GE.out; rw [List.length_map]; omega) ?_; intro v4 w4 R4 hb4 hg4 hat4; have O4 := aS_ (OO.out.new IO.out x.f2 R4 hat4); have I4 := aS_ (((IO.out.retag (0, 3)).tagged hg4 hb4 (fun b e => .inl ((OO.out.retag (0, 3)).tag b e))).new x.f2 MI.out); have hty := Kd.R_typed OO.out.row; have W4_ := aS_ (OW.out.kept hg4 (fun e => by obtain ⟨cs_, h_⟩ := hty bm e.symm; exact map_not_cells OW.out _ _ h_)); have RM4 := aS_ (Kd.R_over' RM.out hty (by decide) hg4); have RI4 := aS_ (Kd.R_over' (RI_retag RI.out (0, 3)) hty (by decide) hg4); have BN4 := aS_ (blk_grown BN.out hg4 (Kd.R_ne OO.out.row BN.out (by decide))); have BC4 := aS_ (blk_grown BC.out hg4 (Kd.R_ne OO.out.row BC.out (by decide))); have TC4 := aS_ ((retag_old (own := own) (t := (0, 3)) (blk_lt BC.out)).trans TC.out); have SZ4 := aS_ hg4.size; have HB4 := aS_ hb4; obtain ⟨g4, cap4, rfl, _, _, _⟩ := Kd.R_form R4 (by simp); have hl4 : (G.map (outC V) ++ [[Value.int .i64 x.f2, .slice none 0 0, .slice none 0 0, .slice none 0 0]]).length = G.length + 1 := (by rw [List.length_append, List.length_map, List.length_singleton]); rw [hl4] at O4 ⊢; obtain ⟨n4, hn4⟩ : ∃ n4, n4 = G.length + 1 := ⟨_, rfl⟩; rw [← hn4] at O4 I4 ⊢; have N4 := aS_ hn4; clear hn4; obtain ⟨own4, ho4⟩ : ∃ own4, own4 = reown own w7.heap.size (0, 3) := ⟨_, rfl⟩; rw [← ho4] at O4 I4 TC4 RI4; have hb8 := blk8 BN4.out; clear R4 hb4 hg4 hat4 hty hl4 ho4 hn1) | (at_mapUpdate; refine wpList_mapUpdate_own _ rfl _ _ _ 79 rfl 3 3 lawI Try.underlying79 (plainElem Try.prog 3) bm n D rfl W4_.out (by have := GE.out; have := GL.out; unfold maxLen; omega) _ _ (.int .i64 x.f2) rfl rfl HKEY.out (.lit (.int .i64 (n4 : Int))) [] (plainElem_int Try.underlying3 (by have := GE.out; have := N4.out; simp [Lit.wf, IntKind.min, IntKind.max, IntKind.signed, IntKind.bits]; omega)) ?_; intro w2 hown2 hg2; have hnc := map_not_cells W4_.out; have hb2 := Below.grown HB4.out hg2 (below_size HB4.out) (fun q hq => by injection hq with hq; rw [← hq]; exact BG.out); have IO5 := aS_ ((I4.out.beside hg2 hb2 hnc).retag (0, 5)); have OO5 := aS_ ((O4.out.beside hg2 hnc).retag (0, 5)); have OW5 := aS_ hown2; have RM5 := aS_ (R_beside RM4.out hg2 hnc); have RI5 := aS_ (RI_retag (R_beside RI4.out hg2 hnc) (0, 5)); have BN5 := aS_ (blk_grown BN4.out hg2 (fun e => hnc _ _ ((Option.some.inj e) ▸ BN4.out))); have bc5 := blk_grown BC4.out hg2 (fun e => hnc _ _ ((Option.some.inj e) ▸ BC4.out)); have TC5 := aS_ ((retag_old (own := own4) (t := (0, 5)) (blk_lt bc5)).trans TC4.out); have BC5 := aS_ bc5; have ID5 := aS_ (ID.out.put x.f2 n4 MI.out); have RE5 := aS_ (RE.out.new x.f2 n4 MI.out (by rw [N4.out]; exact IO.out.ne_new)); have SX5 := aS_ (SX.out.new IO.out x.f2); rw [← N4.out] at SX5; have GL5 := aS_ (show (G ++ [(x.f2, n4)]).length = n + 1 by have := GL.out; simp; omega); have NE5 := aS_ (show n + 1 ≤ (evTo ts k).length + (j + 1) by have := NE.out; omega); have FE5 := aS_ (show Feat1 x.f2 (evTo ts k ++ (ms.take j).map (evM k y.f1)) (G ++ [(x.f2, n4)]) from fun p hp => by rcases List.mem_append.1 hp with h_ | h_; exact .inr (FE.out p h_); exact .inl (by rw [List.mem_singleton.1 h_])); clear hnc hb2 bc5 hown2 hg2))
         go_meet
         exact ⟨n4, n + 1, _, _, _, _, _, _, _, rfl, ⟨List.mem_append_right _ List.mem_cons_self⟩, IO5, OO5, ID5, OW5, RE5, SX5, GL5, NE5, FE5, RM5, BN5, BC5, TC5, RI5⟩
        ·have hcbf : cb = false := by rw [← CB.out, hzg]; exact beq_eq_false_iff_ne.mpr (by omega)
         subst hcbf
         go_wp2
         go_meet
         exact ⟨g, n, D, G, V, Y, X, own, vO, rfl, ⟨hmem⟩, IO, OO, ID, OW, RE, SX, GL, ⟨by have := NE.out; omega⟩, ⟨fun p hp => .inr (FE.out p hp)⟩, RM, BN, BC, TC, RI⟩
       case rest =>
        clear PL CB hcb IO OO ID OW RE SX GL NE FE RM BN BC TC RI HX hn1
        obtain ⟨g, n, D, G, V, Y, X, own, vO, hvO, HP, IO, OO, ID, OW, RE, SX, GL, NE, FE, RM, BN, BC, TC, RI⟩ := hcut
        subst hvO
        obtain ⟨gO, capO, eO, TO, BO, TYO, o0, o1, o2, o3⟩ := OO.out.cells IO.out HP.out
        subst eO
        obtain ⟨gz, hgz⟩ : ∃ gz : Int, gz = (g : Int) - 1 := ⟨_, rfl⟩
        have GZ := aS_ hgz
        have GB := aS_ (show 1 ≤ g ∧ g ≤ G.length by
         obtain ⟨j_, hj_, _, e_⟩ := IO.out.at_ HP.out
         have e2_ : g = j_ + 1 := e_
         omega)
        have GE := aS_ (show G.length ≤ 268369920 by have := GL.out; have := NE.out; have := EL.out; have := JL.out; have := ML.out; have := LN.out; have := NL.out; omega)
        have tz : gz.toNat = g - 1 := by have := GB.out; omega
        have wg : wrap64 ((g : Int) - 1) = gz := by have := GB.out; have := GE.out; unfold wrap64; omega
        have z1 := eq_true (show 0 ≤ gz by have := GB.out; omega)
        have z2 := eq_true (show gz < (G.length : Int) by have := GB.out; omega)
        have o0' : wc.cell? ⟨gO, gz.toNat * 4, none⟩ = some (.int .i64 x.f2) := by rw [tz]; exact o0
        have o1' : wc.cell? ⟨gO, gz.toNat * 4 + 1, none⟩ = some (V g 0) := by rw [tz]; exact o1
        have o2' : wc.cell? ⟨gO, gz.toNat * 4 + 2, none⟩ = some (V g 1) := by rw [tz]; exact o2
        have o3' : wc.cell? ⟨gO, gz.toNat * 4 + 3, none⟩ = some (V g 2) := by rw [tz]; exact o3
        have TZ := aS_ tz
        have XL := aS_ (show ∀ i, i < 3 → (X g i).length ≤ 268369920 from fun i hi => by
         have h_ := SX.out.len RE.out HP.out i hi
         rw [List.length_append, List.length_map, List.length_take] at h_
         have h3_ : min j ms.length ≤ j := Nat.min_le_left _ _
         have : (X g i).length ≤ (evTo ts k).length + min j ms.length := h_
         have := EL.out; have := JL.out; have := ML.out; have := LN.out; have := NL.out; omega)
        have NB := aS_ (show ∀ q ∈ X g 0, q.f0 < 2 ^ 64 ∧ isNaN q.f0 = false from CK.out.row (f := x.f2) (by rw [← RE.out.rows (x.f2, g) HP.out 0 (by decide)]; exact (SX.out (x.f2, g) HP.out).1.1))
        have RS0 := aS_ (show RisesS ltC (X g 0) from (SX.out (x.f2, g) HP.out).1.2)
        have hn1 := blk8 BN.out
        clear hgz tz o0 o1 o2 o3
        go_upto_if 102 with (first | (at_lookup; refine wpList_lookup_own_int _ rfl _ _ 79 rfl 3 3 .i64 lawI Try.underlying79 Try.underlying3 (zeroINT _) bm n D rfl OW.out _ (.int .i64 x.f2) rfl HKEY.out ?_; intro cz hat hwc; have hcz := ID.out.same HP.out hat; subst hcz; clear hat hwc) | ((with_reducible refine gate_dst (N := 15) rfl ?_); refine box2_event rfl (t := 35) (zs := #[.int .i64 0, .slice none 0 0, .slice none 0 0, .slice none 0 0]) (cs := #[.int .i64 x.f2, V g 0, V g 1, V g 2]) (p := .tmp 15) (v := .tmp 99) ?hr rfl rfl rfl rfl rfl rfl infoList4 (all_oneCell_toArray (outC_one IO.out HP.out)) ?_; (case hr => first | (go_simp; done) | (go_simp; rfl)); intro gx hgx w8 hbox hb; have IO8 := aS_ ((IO.out.retag (0, 4)).step hb); have OO8 := aS_ ((OO.out.retag (0, 4)).step hb); have OW8 := aS_ (OW.out.kept (grown_of_below hb none) (by simp)); have RM8 := aS_ (Kd.R_below RM.out hb); have BN8 := aS_ (blk_below BN.out hb); have BC8 := aS_ (blk_below BC.out hb); have TC8 := aS_ ((retag_old (own := own) (t := (0, 4)) (blk_lt BC.out)).trans TC.out); have RI8 := aS_ (Kd.R_below (RI_retag RI.out (0, 4)) hb); have BX := aS_ hbox; have TX := aS_ (show reown own wc.heap.size (0, 4) gx = some (0, 4) from retag_new (Nat.le_of_eq hgx.symm)); have GX := aS_ (show w.heap.size ≤ gx by rw [hgx]; exact below_size IO.out.below); have TO8 := aS_ ((retag_old (own := own) (t := (0, 4)) (TYO.elim (fun _ h_ => blk_lt h_))).trans TO); obtain ⟨own8, ho8⟩ : ∃ own8, own8 = reown own wc.heap.size (0, 4) := ⟨_, rfl⟩; rw [← ho8] at IO8 OO8 TC8 RI8 TX TO8; have hn8 := blk8 BN8.out; clear ho8 hbox hb hgx hn1 o0' o1' o2' o3'))
        have TYO8 := aS_ TYO
        clear IO OO OW RM BN BC TC RI TO TYO TO8 TYO8 z1 z2 wg
        obtain ⟨own, ho⟩ : ∃ own, own = own8 := ⟨_, rfl⟩
        rw [← ho] at IO8 OO8 TC8 RI8 TX
        clear ho own8
        have IO := IO8
        have OO := OO8
        have OW := OW8
        have RM := RM8
        have BN := BN8
        have BC := BC8
        have TC := TC8
        have RI := RI8
        clear IO8 OO8 OW8 RM8 BN8 BC8 TC8 RI8
        obtain ⟨tk, htk⟩ : ∃ tk : Bool, (x.f0 == 3) = tk := ⟨_, rfl⟩
        have TK := aS_ htk
        go_cut [8] from 43 to 130 (fun s_ wc => ∃ (V' : Nat → Nat → Value) (X' : Nat → Nat → List S56) (own : Nat → Option (Nat × Nat)), s_ = .slice (some ⟨gO, 0, none⟩) G.length capO ∧ Aside0 (InO w G V' X' own wc) ∧ Aside0 (OutO w G V own (.slice (some ⟨gO, 0, none⟩) G.length capO) wc) ∧ Aside0 (∀ a, a ≠ g → V' a = V a) ∧ Aside0 (StepX X X' g (⟨x.f3, x.f4, (k : Int), m.f1, m.f2⟩ : S56) tk) ∧ Aside0 (wc.ownsMap Try.prog 3 (plainElem Try.prog 3) bm n D) ∧ Aside0 (Kd.R k58 58 wc w.heap.size (fun _ => True) (.slice (some am) ms.length cM) ms) ∧ Aside0 (wc.heap[gn]? = some (.cells #[.int .u8 x.f0, .int .i64 x.f1, .int .i64 x.f2, .float .f64 x.f3, .slice A4 x.f4.length c4, .int .u8 x.f5, .int .i64 x.f6, .int .i64 x.f7] 71 (0, 0))) ∧ Aside0 (wc.heap[gc]? = some (.cells #[.float .f64 x.f3, .slice Ac x.f4.length cc, .int .i64 z, .int .i64 m.f1, .int .i64 m.f2] 56 (0, 0))) ∧ Aside0 (own gc = some (0, 5)) ∧ Aside0 ((Kd.int .i64).R 3 wc w.heap.size (fun q => own q = some (0, 5) ∧ q ≠ gc) (.slice Ac x.f4.length cc) x.f4) ∧ Aside0 (wc.heap[gx]? = some (.cells #[.int .i64 x.f2, V' g 0, V' g 1, V' g 2] 35 (0, 0))) ∧ Aside0 (own gx = some (0, 4)))
        case first =>
         clear hn8
         have hx8 := blk4 BX.out
         have hc8 := blk5 BC.out
         cases tk
         ·go_wp2_with (first | (go_at_call 32; refine (put_calls _ w.heap.size (okRow (reown own w8.heap.size (g, 0)) g 0) (fun q => reown own w8.heap.size (g, 0) q = some (0, 5) ∧ q ≠ gc) (V g 0) (X g 0) (⟨x.f3, x.f4, z, m.f1, m.f2⟩ : S56) Ac cc ⟨(IO.out.retag (g, 0)).row (x.f2, g) HP.out 0 (by decide)⟩ ⟨RI_retag RI.out (g, 0)⟩ ⟨fun q hq => ⟨.inr hq.1, fun e => (IO.out.retag (g, 0)).tag_ne HP.out (i := 0) (by decide) e.symm 5 hq.1⟩⟩ ⟨fun q hq => .inl (retag_new hq)⟩ ⟨below_size IO.out.below⟩ ⟨fun q hq => by rcases List.mem_append.1 hq with h_ | h_; exact (NB.out q h_).1; rw [List.mem_singleton.1 h_]; exact BX_.out⟩ ⟨fun q hq => by rcases List.mem_append.1 hq with h_ | h_; exact (NB.out q h_).2; rw [List.mem_singleton.1 h_]; exact right_num RX.out BX_.out (by have h2_ := KX.out; have h3_ := TK.out; rcases h2_ with h2_ | h2_; exact h2_; rw [h2_] at h3_; cases h3_)⟩ RS0 ⟨by have := XL.out 0 (by decide); omega⟩).mono ?_; rintro e w4 ⟨v4, ys, rfl, hst, hrs, R4, hg4, hat4⟩; rw [hz.out] at hst; have IOr := IO.out.retag (g, 0); have rowV := IOr.row (x.f2, g) HP.out 0 (by decide); have hty := Kd.R_typed rowV; have hb4 := Below.grown IO.out.below hg4 (below_size IO.out.below) (fun q hq => Kd.R_base rowV q hq); have i4 := IOr.push HP.out (i := 0) (by decide) R4 hg4 hb4 hat4 (fun b hb => retag_new hb); have o4 := (OO.out.retag (g, 0)).kept hg4 (fun b e => IOr.tag_ne HP.out (i := 0) (by decide) e 3); have m4 := OW.out.kept hg4 (fun e => by obtain ⟨cs_, h_⟩ := hty bm e.symm; exact map_not_cells OW.out _ _ h_); have r4 := Kd.R_over' RM.out hty (by decide) hg4; have ri4 := Kd.R_over' (RI_retag RI.out (g, 0)) hty (by decide) hg4; have n4_ := blk_grown BN.out hg4 (Kd.R_ne rowV BN.out (by decide)); have tc4 := (retag_old (own := own) (t := (g, 0)) (blk_lt BC.out)).trans TC.out; have c4_ := blk_grown BC.out hg4 (fun e => IOr.tag_ne HP.out (i := 0) (by decide) e.symm 5 tc4); have x4 := blk_grown BX.out hg4 (Kd.R_ne rowV BX.out (by decide)); have tx4 := (retag_old (own := own) (t := (g, 0)) (blk_lt BX.out)).trans TX.out; obtain ⟨g4, cap4, rfl, _, _, _⟩ := Kd.R_form R4 (by have h_ := StEq.len swoC hst; rw [List.length_append, List.length_singleton] at h_; omega); obtain ⟨n4, hn4⟩ : ∃ n4, n4 = ys.length := ⟨_, rfl⟩; rw [← hn4] at i4 ⊢; clear hn4; have ng4 := map_ne m4 x4; have I5 := aS_ (i4.tagged (grown_set w4 gx 1 (.slice (some ⟨g4, 0, none⟩) n4 cap4)) (below_set hb4 GX.out) (fun b e => .inr (by injection e with e; rw [← e]; exact tx4))); have O5 := aS_ (o4.kept (grown_set w4 gx 1 (.slice (some ⟨g4, 0, none⟩) n4 cap4)) (fun b e => by injection e with e; rw [← e, tx4]; decide)); have M5 := aS_ (m4.kept (grown_set w4 gx 1 (.slice (some ⟨g4, 0, none⟩) n4 cap4)) (fun e => ng4 (Option.some.inj e))); have R5 := aS_ (R_setFar r4 x4 (by decide) 1 (.slice (some ⟨g4, 0, none⟩) n4 cap4)); have RI5 := aS_ (R_setFar ri4 x4 (by decide) 1 (.slice (some ⟨g4, 0, none⟩) n4 cap4)); have N5 := aS_ (blk_far n4_ (p := ⟨gx, 1, none⟩) (cells_ne n4_ x4 (by decide)) (.slice (some ⟨g4, 0, none⟩) n4 cap4)); have C5 := aS_ (blk_far c4_ (p := ⟨gx, 1, none⟩) (cells_ne c4_ x4 (by decide)) (.slice (some ⟨g4, 0, none⟩) n4 cap4)); have X5 := aS_ (box_upd x4 0 (by decide) (.slice (some ⟨g4, 0, none⟩) n4 cap4)); have TC5 := aS_ tc4; have TX5 := aS_ tx4; have hx4 := blk4 x4; have SP := aS_ (show StepX X (upd X g 0 ys) g (⟨x.f3, x.f4, (k : Int), m.f1, m.f2⟩ : S56) false from ⟨ys, rfl, hst, hrs⟩); clear IOr rowV hty hb4 i4 o4 m4 r4 ri4 n4_ tc4 c4_ x4 tx4 ng4 R4 hg4 hat4 hst hrs))
          go_meet
          exact ⟨_, _, _, rfl, I5, O5, ⟨upd_row _ _ _ _⟩, SP, M5, R5, N5, C5, TC5, RI5, X5, TX5⟩
         ·go_wp2_with (first | ((with_reducible refine gate_builtin (b := .append) (xs := #[.tmp 104, .tmp 106]) rfl ?_); at_builtin; refine Kd.R_append k56 (w0 := w) w.heap.size rfl (.tmp 104) (.tmp 106) 33 56 (.agg #[.float .f64 0, .slice none 0 0, .int .i64 0, .int .i64 0, .int .i64 0]) 56 rfl Try.underlying33 infoCut rfl (by decide) (by omega) (V g 1) (X g 1) (⟨x.f3, x.f4, (k : Int), m.f1, m.f2⟩ : S56) [.float .f64 x.f3, .slice Ac x.f4.length cc, .int .i64 z, .int .i64 m.f1, .int .i64 m.f2] (okRow (reown own w8.heap.size (g, 1)) g 1) (fun q => reown own w8.heap.size (g, 1) q = some (0, 5) ∧ q ≠ gc) rfl rfl ?aP ?aK (fun q hq => .inl (retag_new hq)) ((IO.out.retag (g, 1)).row (x.f2, g) HP.out 1 (by decide)) IO.out.below (below_size IO.out.below) ?aL ?_; (case aP => rw [hz.out]; exact k56_mkM _ _ _ (⟨x.f3, x.f4, (k : Int), m.f1, m.f2⟩ : S56) (RI_retag RI.out (g, 1))); (case aK => exact fun q hq => ⟨.inr hq.1, fun e => (IO.out.retag (g, 1)).tag_ne HP.out (i := 1) (by decide) e.symm 5 hq.1⟩); (case aL => have := XL.out 1 (by decide); omega); intro v4 w4 R4 hb4 hg4 hat4; have IOr := IO.out.retag (g, 1); have rowV := IOr.row (x.f2, g) HP.out 1 (by decide); have hty := Kd.R_typed rowV; have i4 := IOr.push HP.out (i := 1) (by decide) R4 hg4 hb4 hat4 (fun b hb => retag_new hb); have o4 := (OO.out.retag (g, 1)).kept hg4 (fun b e => IOr.tag_ne HP.out (i := 1) (by decide) e 3); have m4 := OW.out.kept hg4 (fun e => by obtain ⟨cs_, h_⟩ := hty bm e.symm; exact map_not_cells OW.out _ _ h_); have r4 := Kd.R_over' RM.out hty (by decide) hg4; have ri4 := Kd.R_over' (RI_retag RI.out (g, 1)) hty (by decide) hg4; have n4_ := blk_grown BN.out hg4 (Kd.R_ne rowV BN.out (by decide)); have tc4 := (retag_old (own := own) (t := (g, 1)) (blk_lt BC.out)).trans TC.out; have c4_ := blk_grown BC.out hg4 (fun e => IOr.tag_ne HP.out (i := 1) (by decide) e.symm 5 tc4); have x4 := blk_grown BX.out hg4 (Kd.R_ne rowV BX.out (by decide)); have tx4 := (retag_old (own := own) (t := (g, 1)) (blk_lt BX.out)).trans TX.out; obtain ⟨g4, cap4, rfl, _, _, _⟩ := Kd.R_form R4 (by simp); obtain ⟨n4, hn4⟩ : ∃ n4, n4 = (X g 1 ++ [(⟨x.f3, x.f4, (k : Int), m.f1, m.f2⟩ : S56)]).length := ⟨_, rfl⟩; rw [← hn4] at i4 ⊢; clear hn4; have ng4 := map_ne m4 x4; have I5 := aS_ (i4.tagged (grown_set w4 gx 2 (.slice (some ⟨g4, 0, none⟩) n4 cap4)) (below_set hb4 GX.out) (fun b e => .inr (by injection e with e; rw [← e]; exact tx4))); have O5 := aS_ (o4.kept (grown_set w4 gx 2 (.slice (some ⟨g4, 0, none⟩) n4 cap4)) (fun b e => by injection e with e; rw [← e, tx4]; decide)); have M5 := aS_ (m4.kept (grown_set w4 gx 2 (.slice (some ⟨g4, 0, none⟩) n4 cap4)) (fun e => ng4 (Option.some.inj e))); have R5 := aS_ (R_setFar r4 x4 (by decide) 2 (.slice (some ⟨g4, 0, none⟩) n4 cap4)); have RI5 := aS_ (R_setFar ri4 x4 (by decide) 2 (.slice (some ⟨g4, 0, none⟩) n4 cap4)); have N5 := aS_ (blk_far n4_ (p := ⟨gx, 2, none⟩) (cells_ne n4_ x4 (by decide)) (.slice (some ⟨g4, 0, none⟩) n4 cap4)); have C5 := aS_ (blk_far c4_ (p := ⟨gx, 2, none⟩) (cells_ne c4_ x4 (by decide)) (.slice (some ⟨g4, 0, none⟩) n4 cap4)); have X5 := aS_ (box_upd x4 1 (by decide) (.slice (some ⟨g4, 0, none⟩) n4 cap4)); have TC5 := aS_ tc4; have TX5 := aS_ tx4; have hx4 := blk4 x4; clear IOr rowV hty hb4 i4 o4 m4 r4 ri4 n4_ tc4 c4_ x4 tx4 ng4 R4 hg4 hat4))
          go_meet
          exact ⟨_, _, _, rfl, I5, O5, ⟨upd_row _ _ _ _⟩, ⟨(rfl : StepX X _ g (⟨x.f3, x.f4, (k : Int), m.f1, m.f2⟩ : S56) true)⟩, M5, R5, N5, C5, TC5, RI5, X5, TX5⟩
        case rest =>
         clear IO OO OW RM BN BC TC RI BX TX hn8
         obtain ⟨V1, X1, own, rfl, IO, OO, VE, SP, OW, RM, BN, BC, TC, RI, BX, TX⟩ := hcut
         have VE1 := VE
         clear VE
         have XL1 := aS_ (SP.out.len XL.out)
         obtain ⟨tl, htl⟩ : ∃ tl : Bool, (x.f5 == 2) = tl := ⟨_, rfl⟩
         have TL := aS_ htl
         have hn2 := blk8 BN.out
         have hx2 := blk4 BX.out
         have hc2 := blk5 BC.out
         go_upto_if 116 with (fail)
         go_cut [8] from 43 to 130 (fun s_ wc => ∃ (V' : Nat → Nat → Value) (X' : Nat → Nat → List S56) (own : Nat → Option (Nat × Nat)), s_ = .slice (some ⟨gO, 0, none⟩) G.length capO ∧ Aside0 (InO w G V' X' own wc) ∧ Aside0 (OutO w G V own (.slice (some ⟨gO, 0, none⟩) G.length capO) wc) ∧ Aside0 (∀ a, a ≠ g → V' a = V a) ∧ Aside0 (X' = (if tl then upd X1 g 2 (X1 g 2 ++ [(⟨x.f3, x.f4, (k : Int), m.f1, m.f2⟩ : S56)]) else X1)) ∧ Aside0 (wc.ownsMap Try.prog 3 (plainElem Try.prog 3) bm n D) ∧ Aside0 (Kd.R k58 58 wc w.heap.size (fun _ => True) (.slice (some am) ms.length cM) ms) ∧ Aside0 (wc.heap[gn]? = some (.cells #[.int .u8 x.f0, .int .i64 x.f1, .int .i64 x.f2, .float .f64 x.f3, .slice A4 x.f4.length c4, .int .u8 x.f5, .int .i64 x.f6, .int .i64 x.f7] 71 (0, 0))) ∧ Aside0 (wc.heap[gc]? = some (.cells #[.float .f64 x.f3, .slice Ac x.f4.length cc, .int .i64 z, .int .i64 m.f1, .int .i64 m.f2] 56 (0, 0))) ∧ Aside0 (own gc = some (0, 5)) ∧ Aside0 ((Kd.int .i64).R 3 wc w.heap.size (fun q => own q = some (0, 5) ∧ q ≠ gc) (.slice Ac x.f4.length cc) x.f4) ∧ Aside0 (wc.heap[gx]? = some (.cells #[.int .i64 x.f2, V' g 0, V' g 1, V' g 2] 35 (0, 0))) ∧ Aside0 (own gx = some (0, 4)))
         case first =>
          cases tl
          ·go_wp2
           go_meet
           exact ⟨V1, X1, own, rfl, IO, OO, VE1, ⟨rfl⟩, OW, RM, BN, BC, TC, RI, BX, TX⟩
          ·go_wp2_with (first | ((with_reducible refine gate_builtin (b := .append) (xs := #[.tmp 118, .tmp 120]) rfl ?_); at_builtin; refine Kd.R_append k56 (w0 := w) w.heap.size rfl (.tmp 118) (.tmp 120) 33 56 (.agg #[.float .f64 0, .slice none 0 0, .int .i64 0, .int .i64 0, .int .i64 0]) 56 rfl Try.underlying33 infoCut rfl (by decide) (by omega) (V1 g 2) (X1 g 2) (⟨x.f3, x.f4, (k : Int), m.f1, m.f2⟩ : S56) [.float .f64 x.f3, .slice Ac x.f4.length cc, .int .i64 z, .int .i64 m.f1, .int .i64 m.f2] (okRow (reown own wc.heap.size (g, 2)) g 2) (fun q => reown own wc.heap.size (g, 2) q = some (0, 5) ∧ q ≠ gc) rfl rfl ?aP ?aK (fun q hq => .inl (retag_new hq)) ((IO.out.retag (g, 2)).row (x.f2, g) HP.out 2 (by decide)) IO.out.below (below_size IO.out.below) ?aL ?_; (case aP => rw [hz.out]; exact k56_mkM _ _ _ (⟨x.f3, x.f4, (k : Int), m.f1, m.f2⟩ : S56) (RI_retag RI.out (g, 2))); (case aK => exact fun q hq => ⟨.inr hq.1, fun e => (IO.out.retag (g, 2)).tag_ne HP.out (i := 2) (by decide) e.symm 5 hq.1⟩); (case aL => have := XL1.out 2 (by decide); omega); intro v4 w4 R4 hb4 hg4 hat4; have IOr := IO.out.retag (g, 2); have rowV := IOr.row (x.f2, g) HP.out 2 (by decide); have hty := Kd.R_typed rowV; have i4 := IOr.push HP.out (i := 2) (by decide) R4 hg4 hb4 hat4 (fun b hb => retag_new hb); have o4 := (OO.out.retag (g, 2)).kept hg4 (fun b e => IOr.tag_ne HP.out (i := 2) (by decide) e 3); have m4 := OW.out.kept hg4 (fun e => by obtain ⟨cs_, h_⟩ := hty bm e.symm; exact map_not_cells OW.out _ _ h_); have r4 := Kd.R_over' RM.out hty (by decide) hg4; have ri4 := Kd.R_over' (RI_retag RI.out (g, 2)) hty (by decide) hg4; have n4_ := blk_grown BN.out hg4 (Kd.R_ne rowV BN.out (by decide)); have tc4 := (retag_old (own := own) (t := (g, 2)) (blk_lt BC.out)).trans TC.out; have c4_ := blk_grown BC.out hg4 (fun e => IOr.tag_ne HP.out (i := 2) (by decide) e.symm 5 tc4); have x4 := blk_grown BX.out hg4 (Kd.R_ne rowV BX.out (by decide)); have tx4 := (retag_old (own := own) (t := (g, 2)) (blk_lt BX.out)).trans TX.out; obtain ⟨g4, cap4, rfl, _, _, _⟩ := Kd.R_form R4 (by simp); obtain ⟨n4, hn4⟩ : ∃ n4, n4 = (X1 g 2 ++ [(⟨x.f3, x.f4, (k : Int), m.f1, m.f2⟩ : S56)]).length := ⟨_, rfl⟩; rw [← hn4] at i4 ⊢; clear hn4; have ng4 := map_ne m4 x4; have I5 := aS_ (i4.tagged (grown_set w4 gx 3 (.slice (some ⟨g4, 0, none⟩) n4 cap4)) (below_set hb4 GX.out) (fun b e => .inr (by injection e with e; rw [← e]; exact tx4))); have O5 := aS_ (o4.kept (grown_set w4 gx 3 (.slice (some ⟨g4, 0, none⟩) n4 cap4)) (fun b e => by injection e with e; rw [← e, tx4]; decide)); have M5 := aS_ (m4.kept (grown_set w4 gx 3 (.slice (some ⟨g4, 0, none⟩) n4 cap4)) (fun e => ng4 (Option.some.inj e))); have R5 := aS_ (R_setFar r4 x4 (by decide) 3 (.slice (some ⟨g4, 0, none⟩) n4 cap4)); have RI5 := aS_ (R_setFar ri4 x4 (by decide) 3 (.slice (some ⟨g4, 0, none⟩) n4 cap4)); have N5 := aS_ (blk_far n4_ (p := ⟨gx, 3, none⟩) (cells_ne n4_ x4 (by decide)) (.slice (some ⟨g4, 0, none⟩) n4 cap4)); have C5 := aS_ (blk_far c4_ (p := ⟨gx, 3, none⟩) (cells_ne c4_ x4 (by decide)) (.slice (some ⟨g4, 0, none⟩) n4 cap4)); have X5 := aS_ (box_upd x4 2 (by decide) (.slice (some ⟨g4, 0, none⟩) n4 cap4)); have TC5 := aS_ tc4; have TX5 := aS_ tx4; have hx4 := blk4 x4; clear IOr rowV hty hb4 i4 o4 m4 r4 ri4 n4_ tc4 c4_ x4 tx4 ng4 R4 hg4 hat4))
           go_meet
           exact ⟨_, _, _, rfl, I5, O5, ⟨fun a ha => (upd_row _ _ _ _ a ha).trans (VE1.out a ha)⟩, ⟨rfl⟩, M5, R5, N5, C5, TC5, RI5, X5, TX5⟩
         case rest =>
          clear IO OO OW RM BN BC TC RI BX TX hn2 hx2 hc2 VE1
          obtain ⟨V2, X2, own, rfl, IO, OO, VE, XE, OW, RM, BN, BC, TC, RI, BX, TX⟩ := hcut
          have wg : wrap64 ((g : Int) - 1) = gz := by have := GZ.out; have := GB.out; have := GE.out; unfold wrap64; omega
          have z1 := eq_true (show 0 ≤ gz by have := GZ.out; have := GB.out; omega)
          have z2 := eq_true (show gz < (G.length : Int) by have := GZ.out; have := GB.out; omega)
          have hn2 := blk8 BN.out
          have hx2 := blk4 BX.out
          obtain ⟨Y2, hY2⟩ : ∃ Y2 : Nat → Nat → List S56, Y2 = (if tl then upd (upd Y g (if tk then 1 else 0) (Y g (if tk then 1 else 0) ++ [(⟨x.f3, x.f4, (k : Int), m.f1, m.f2⟩ : S56)])) g 2 ((upd Y g (if tk then 1 else 0) (Y g (if tk then 1 else 0) ++ [(⟨x.f3, x.f4, (k : Int), m.f1, m.f2⟩ : S56)])) g 2 ++ [(⟨x.f3, x.f4, (k : Int), m.f1, m.f2⟩ : S56)]) else upd Y g (if tk then 1 else 0) (Y g (if tk then 1 else 0) ++ [(⟨x.f3, x.f4, (k : Int), m.f1, m.f2⟩ : S56)])) := ⟨_, rfl⟩
          have RE' := aS_ (show RowsE (evTo ts k ++ (ms.take (j + 1)).map (evM k y.f1)) G Y2 by
           rw [EVJ.out, ← List.append_assoc, hY2]
           exact RE.out.put IO.out.keys IO.out.boxes HP.out (x, (⟨x.f3, x.f4, (k : Int), m.f1, m.f2⟩ : S56)) rfl (puts_row Y g x (⟨x.f3, x.f4, (k : Int), m.f1, m.f2⟩ : S56) tk tl TK.out TL.out _ rfl) (puts_other Y g (⟨x.f3, x.f4, (k : Int), m.f1, m.f2⟩ : S56) tk tl _ rfl))
          have SX' := aS_ (show SortX G Y2 X2 by rw [hY2, XE.out]; exact SX.out.put IO.out.boxes HP.out (⟨x.f3, x.f4, (k : Int), m.f1, m.f2⟩ : S56) tk tl SP.out)
          have FE' := aS_ (show Feat (evTo ts k ++ (ms.take (j + 1)).map (evM k y.f1)) G by rw [EVJ.out, ← List.append_assoc]; exact Feat1.put FE.out rfl)
          clear hY2
          go_wp2_with (first | (at_lookup; refine wpList_lookup_own_int _ rfl _ _ 79 rfl 3 3 .i64 lawI Try.underlying79 Try.underlying3 (zeroINT _) bm n D rfl OW.out _ (.int .i64 x.f2) rfl HKEY.out ?_; intro cz hat hwc; have hcz := ID.out.same HP.out hat; subst hcz; clear hat hwc) | ((with_reducible refine gate_store (t := 35) (p := 130) rfl ?_); refine Kd.R_store (Kd.raw 4) (w0 := w) w.heap.size rfl rfl 35 (.tmp 130) (.tmp 129) rfl 35 gz 0 (G.map (outC V)) (outC V2 (x.f2, g)) (.agg #[.int .i64 x.f2, V2 g 0, V2 g 1, V2 g 2]) [.int .i64 x.f2, V2 g 0, V2 g 1, V2 g 2] (outC V (x.f2, g)) (fun q => own q = some (0, 3)) (fun _ => False) rfl rfl rfl rfl infoList4 (outC_one IO.out HP.out) OO.out.row (by have := GZ.out; have := GB.out; omega) (by have := GZ.out; have := GB.out; omega) rfl (fun j_ u_ hu_ => by rw [TZ.out]; exact OO.out.hcc IO.out.num HP.out rfl j_ u_ hu_) (Nat.le_refl 4) (raw_out (outC_one IO.out HP.out)) (fun _ h_ => h_.elim) IO.out.below ?_; intro w9 r9 hb9 hg9; rw [TZ.out] at r9; have hty := Kd.R_typed OO.out.row; have O9 := aS_ (OO.out.stored IO.out.num HP.out VE.out r9); have I9 := aS_ (IO.out.tagged hg9 hb9 (fun b e => .inl (OO.out.tag b e))); have M9 := aS_ (OW.out.kept hg9 (fun e => by obtain ⟨cs_, h_⟩ := hty bm e.symm; exact map_not_cells OW.out _ _ h_)); have R9 := aS_ (Kd.R_over' RM.out hty (by decide) hg9); clear r9 hb9 hg9 hty hn2 hx2))
          go_roundg k2
          case measure => exact Nat.lt_succ_self _
          case rel => exact ⟨wrap64 (zj + 1), j + 1, n, D, G, V2, Y2, X2, own, .slice (some ⟨gO, 0, none⟩) G.length capO, rfl, rfl, ⟨by first | exact wj | omega⟩, ⟨JL.out⟩, ⟨by have := hm2.out; have := JL.out; omega⟩, I9, O9, ID, M9, RE', SX', GL, ⟨by have := NE.out; omega⟩, FE', CK', R9⟩
      ·have cnd2 : decide (zj < (ms.length : Int)) = false := decide_eq_false (by have := hj.out; omega)
       have JE := aS_ (show j = ms.length by have := hjl.out; omega)
       have EQ := aS_ (show (evTo ts k ++ (ms.take j).map (evM k y.f1)) = evTo ts (k + 1) by
        rw [YE.out, List.take_of_length_le (by have := JE.out; omega)]
        unfold evT
        rw [← MS.out])
       have LE := aS_ (show (evTo ts (k + 1)).length = (evTo ts k).length + j by
        rw [← EQ.out, List.length_append, List.length_map, List.take_of_length_le (by have := JE.out; omega), JE.out])
       have r1_ := aS_ (show RowsE (evTo ts (k + 1)) G Y by rw [← EQ.out]; exact RE.out)
       have r2_ := aS_ (show Feat (evTo ts (k + 1)) G by rw [← EQ.out]; exact FE.out)
       have r3_ := aS_ (show CutsOk (evTo ts (k + 1)) by rw [← EQ.out]; exact CK.out)
       clear hend RE FE CK
       go_wp2
       go_roundg k1
       case measure => exact Nat.lt_succ_self _
       case rel => exact ⟨wrap64 (z + 1), k + 1, n, D, G, V, Y, X, own, vO, rfl, rfl, ⟨by first | exact wz | omega⟩, ⟨NL.out⟩, ⟨by have := hm.out; have := NL.out; omega⟩, IO, OO, ID, OW, r1_, SX, GL, ⟨by have := NE.out; have := LE.out; omega⟩, r2_, r3_⟩
   ·have cnd : decide (z < (ts.length : Int)) = false := decide_eq_false (by have := hz.out; omega)
    have hkt : k = ts.length := by have := hk.out; omega
    subst hkt
    have EN := aS_ (show (evTo ts ts.length).length ≤ 268369920 by have := evTo_len GD.out FN.out ts.length (Nat.le_refl _); have := LN.out; omega)
    have WHO := aS_ (OO.out.whole IO.out)
    have SP0 := aS_ (fun (ys : List S35) (h1_ : StEq ltL (G.map fun p => (⟨p.1, X p.2 0, X p.2 1, X p.2 2⟩ : S35)) ys) (h2_ : RisesS ltL ys) => SX.out.spec IO.out RE.out FE.out h1_ h2_)
    have IBB := aS_ IO.out.below
    obtain ⟨wT, hwT⟩ : ∃ wT, wT = wr := ⟨_, rfl⟩
    subst hwT
    by_cases hG : G.length = 0
    ·obtain ⟨AO, cO, rfl, _, _⟩ := Kd.R_reads WHO.out
     have hG2 : G = [] := List.eq_nil_of_length_eq_zero hG
     have S0 := aS_ (SP0.out [] (by rw [hG2]; exact StEq.refl _) List.Pairwise.nil)
     have W0 := aS_ (show Kd.R k35 35 wT w.heap.size (fun _ => True) (.slice AO (G.map fun p => (⟨p.1, X p.2 0, X p.2 1, X p.2 2⟩ : S35)).length cO) [] by have h_ := WHO.out; rw [hG2] at h_ ⊢; exact h_)
     have hl0 : (G.map fun p => (⟨p.1, X p.2 0, X p.2 1, X p.2 2⟩ : S35)).length = 0 := by rw [List.length_map, hG]
     rw [hl0] at W0 ⊢
     clear hG hG2 hl0 hend WHO SP0 IO OO OW
     go_wp2
     go_loopg [16] 1 (fun kq v16 w' => v16 = .int .i64 0 ∧ w' = wT)
     case atStart => exact ⟨rfl, rfl⟩
     case round =>
      obtain ⟨rfl, rfl⟩ := hrel
      go_wp2
      go_ret2
      exact ⟨_, [], rfl, S0.out, W0.out, IBB.out⟩
    ·obtain ⟨m, hm_⟩ : ∃ m, m = G.length := ⟨_, rfl⟩
     have HM := aS_ hm_
     obtain ⟨es, clock, hmb⟩ : ∃ es clock, wT.heap[bm]? = some (.map es clock) := by
      obtain ⟨es, clock, h_, _⟩ := OW.out
      exact ⟨es, clock, h_⟩
     obtain ⟨gO, capO, tl, tq, rfl, e1, em, hS, hback⟩ := R_toksL WHO.out m (by rw [List.length_map]; exact hm_.symm) (by omega) bm _ hmb (fun e => by
      obtain ⟨cs_, h_⟩ := Kd.R_typed WHO.out bm e.symm
      exact map_not_cells OW.out _ _ h_)
     have E1 := aS_ e1
     have EM := aS_ em
     have SR := aS_ hS
     have BK := aS_ hback
     have SM0 := aS_ (show SortI tq m 0 tq.toArray by rw [← em]; exact SortI.start tq)
     have ML := aS_ (show m ≤ 268369920 by have := GL.out; have := NE.out; have := EN.out; omega)
     have TG := aS_ (show w.heap.size ≤ gO from Kd.R_base WHO.out gO rfl)
     have HO := aS_ (show (Obj.map es clock) = .map es clock from rfl)
     clear hG hm_ hmb e1 em hS hback hend
     go_wp2
     go_loopg [16] (m + 1) (fun kq v16 w' => ∃ (z : Int) (i : Nat) (dc : Array TkL), v16 = .int .i64 z ∧ Aside0 (z = i) ∧ Aside0 (i ≤ m) ∧ Aside0 (m - i < kq) ∧ Aside0 (SortI tq m i dc) ∧ Aside0 (SrL rcL bm (.map es clock) wT gO tl dc w'))
     case atStart => exact ⟨0, 0, tq.toArray, rfl, ⟨rfl⟩, ⟨Nat.zero_le _⟩, ⟨by omega⟩, SM0, SR⟩
     case round =>
      clear SR SM0
      obtain ⟨zi, i, dc, rfl, hzi, hi, hmi, SI, SR⟩ := hrel
      cases gk with
      | zero => exact absurd hmi.out (by omega)
      | succ k1 =>
       by_cases hend : i < m
       ·have c1 : decide (zi < (m : Int)) = true := decide_eq_true (by have := hzi.out; omega)
        have IL := aS_ hend
        have wi : wrap64 (zi + 1) = ((i + 1 : Nat) : Int) := by have := hzi.out; have := ML.out; unfold wrap64; omega
        clear hend
        go_wp2
        go_loopg [17] (i + 2) (fun kq v17 w' => ∃ (y : Int) (j : Nat) (dj : Array TkL), v17 = .int .i64 y ∧ Aside0 (y = j) ∧ Aside0 (j < kq) ∧ Aside0 (SwapI tq m i j dc dj) ∧ Aside0 (SrL rcL bm (.map es clock) wT gO tl dj w'))
        case atStart => exact ⟨zi, i, dc, rfl, hzi, ⟨by omega⟩, ⟨SI.out.in_⟩, SR⟩
        case round =>
         clear SR
         obtain ⟨y, j, dj, rfl, hy, hkj, PI, SR⟩ := hrel
         cases gk with
         | zero => exact absurd hkj.out (by omega)
         | succ k2 =>
          by_cases hja : 0 < j
          ·have c2 : decide (y > 0) = true := decide_eq_true (by have := hy.out; omega)
           obtain ⟨y1, hy1⟩ : ∃ y1 : Int, y1 = y - 1 := ⟨_, rfl⟩
           have J := aS_ (⟨by have := hy.out; omega, by have := hy.out; have := PI.out.le; have := IL.out; omega, by have := hy.out; omega, by have := hy.out; have := PI.out.le; have := IL.out; omega⟩ : y1.toNat = j - 1 ∧ j < m ∧ y.toNat = j ∧ j - 1 < m)
           have wy : wrap64 (y - 1) = y1 := by have := hy.out; have := J.out; have := ML.out; unfold wrap64; omega
           have p1 := eq_true (show 0 ≤ y by have := hy.out; omega)
           have p2 := eq_true (show y < (m : Int) by have := hy.out; have := J.out; omega)
           have p3 := eq_true (show 0 ≤ y1 by have := hy.out; omega)
           have p4 := eq_true (show y1 < (m : Int) by have := hy.out; have := J.out; omega)
           obtain ⟨x1, hx1⟩ : ∃ x1, x1 = dj[j]! := ⟨_, rfl⟩
           obtain ⟨x0, hx0⟩ : ∃ x0, x0 = dj[j - 1]! := ⟨_, rfl⟩
           have XX := aS_ (⟨hx1, hx0⟩ : x1 = dj[j]! ∧ x0 = dj[j - 1]!)
           obtain ⟨d0, d1, d2, d3⟩ := list_at (show AtL rcL wr gO (y.toNat * 4) x1 by rw [J.out.2.2.1, hx1]; exact SR.out.at_ j (by rw [PI.out.size]; exact J.out.2.1))
           obtain ⟨f0, f1, f2, f3⟩ := list_at (show AtL rcL wr gO (y1.toNat * 4) x0 by rw [J.out.1, hx0]; exact SR.out.at_ (j - 1) (by rw [PI.out.size]; exact J.out.2.2.2))
           obtain ⟨tb, htb⟩ : ∃ tb, decide (x1.s.f0 < x0.s.f0) = tb := ⟨_, rfl⟩
           have TB := aS_ (show ltU x1 x0 = tb from htb)
           have JA := aS_ hja
           have Y1 := aS_ hy1
           clear hx1 hx0 hy1 hja d1 d2 d3 f1 f2 f3
           go_wp2
           go_quiet (fail)
           obtain ⟨w5, hw5⟩ : ∃ w5, w5 = wr.drewN nq := ⟨_, rfl⟩
           have SR5 := aS_ (show SrL rcL bm (.map es clock) wT gO tl dj w5 by rw [hw5]; exact SR.out.drewN nq)
           rw [← hw5]
           try rw [htb]
           clear SR d0 f0 hw5 htb
           cases tb
           ·go_wp2
            go_roundg k1
            case measure => exact Nat.lt_succ_self _
            case rel => exact ⟨wrap64 (zi + 1), i + 1, dj, rfl, ⟨by first | exact wi | omega⟩, ⟨IL.out⟩, ⟨by have := hmi.out; have := IL.out; omega⟩, ⟨PI.out.done SI.out IL.out (.inr (by rw [← XX.out.1, ← XX.out.2]; exact TB.out))⟩, SR5⟩
           ·obtain ⟨d0, d1, d2, d3⟩ := list_at (show AtL rcL w5 gO (y.toNat * 4) x1 by rw [J.out.2.2.1, XX.out.1]; exact SR5.out.at_ j (by rw [PI.out.size]; exact J.out.2.1))
            obtain ⟨f0, f1, f2, f3⟩ := list_at (show AtL rcL w5 gO (y1.toNat * 4) x0 by rw [J.out.1, XX.out.2]; exact SR5.out.at_ (j - 1) (by rw [PI.out.size]; exact J.out.2.2.2))
            go_wp2_with (first | ((with_reducible refine gate_dst (N := 18) rfl ?_); refine box2_event rfl (t := 35) (zs := #[.int .i64 0, .slice none 0 0, .slice none 0 0, .slice none 0 0]) (cs := #[.int .i64 x1.s.f0, x1.v1, x1.v2, x1.v3]) (p := .tmp 18) (v := .tmp 159) ?hr rfl rfl rfl rfl rfl rfl infoList4 (all_oneCell_toArray (rcL.one x1)) ?_; (case hr => first | (go_simp; done) | (go_simp; rfl)); intro gy hg w6 hbox hb; have S_ := aS_ (SR5.out.below hb); have NG := aS_ (show gy ≠ gO by rw [hg]; exact Nat.ne_of_gt SR5.out.lt); obtain ⟨f0, f1, f2, f3⟩ := list_at (show AtL rcL w6 gO (y1.toNat * 4) x0 by rw [J.out.1, XX.out.2]; exact S_.out.at_ (j - 1) (by rw [PI.out.size]; exact J.out.2.2.2)); have BY := aS_ hbox; clear SR5 hbox hb hg) | ((with_reducible refine gate_store (t := 35) (p := 167) rfl ?_); refine S_.out.storeP_ y.toNat (by rw [J.out.2.2.1, PI.out.size]; exact J.out.2.1) x0 rfl rfl rfl rfl rfl ?_; intro w7 hs7 hg7; have BY7 := aS_ (blk_grown BY.out hg7 (fun e => NG.out (Option.some.inj e))); have hy_ := blk4 (w := w7) BY7.out; have S7 := aS_ hs7; clear S_ BY f0 f1 f2 f3 hs7 hg7) | ((with_reducible refine gate_store (t := 35) (p := 172) rfl ?_); refine S7.out.storeP_ y1.toNat (by rw [Array.size_setIfInBounds, J.out.1, PI.out.size]; exact J.out.2.2.2) x1 rfl rfl rfl rfl rfl ?_; intro w8 hs8 hg8; rw [J.out.2.2.1, J.out.1, XX.out.1, XX.out.2] at hs8; have SW := aS_ (show SrL rcL bm (.map es clock) wT gO tl (swp dj j (j - 1)) w8 from hs8); clear S7 hs8 hg8 BY7 hy_))
            go_roundg k2
            case measure => have := hkj.out; omega
            case rel => exact ⟨_, j - 1, _, rfl, ⟨by have := Y1.out; have := hy.out; have := JA.out; first | omega | (rw [wy]; omega)⟩, ⟨by have := hkj.out; have := JA.out; omega⟩, ⟨PI.out.go IL.out JA.out (by rw [← XX.out.1, ← XX.out.2]; exact TB.out)⟩, SW⟩
          ·have c2 : decide (y > 0) = false := decide_eq_false (by have := hy.out; omega)
           have J0 := aS_ hja
           clear hja
           go_wp2
           go_quiet (fail)
           go_wp2
           go_roundg k1
           case measure => exact Nat.lt_succ_self _
           case rel => exact ⟨wrap64 (zi + 1), i + 1, dj, rfl, ⟨by first | exact wi | omega⟩, ⟨IL.out⟩, ⟨by have := hmi.out; have := IL.out; omega⟩, ⟨PI.out.done SI.out IL.out (.inl J0.out)⟩, ⟨SR.out.drewN _⟩⟩
       ·have c1 : decide (zi < (m : Int)) = false := decide_eq_false (by have := hzi.out; omega)
        have IE := aS_ (show i = m by have := hi.out; omega)
        clear hend
        go_wp2
        go_ret2
        have hso := SI.out
        rw [IE.out] at hso
        obtain ⟨h1_, h2_⟩ := hso.end_
        rw [E1.out] at h1_
        refine ⟨_, _, rfl, SP0.out _ h1_ h2_, BK.out _ _ SR.out hso.size hso.mem, ?_⟩
        exact Below.grown IBB.out SR.out.grown (below_size IBB.out) (fun q hq => by injection hq with hq; rw [← hq]; exact TG.out)
end Go.Proofs.Ytfmjgjfbnilpoaa.FAll
