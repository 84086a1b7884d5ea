-- written by fprint.sh, a program of ours over the kit's print: not by hand
import Derived.Test.YtfmjgjfbnilpoaaZq
import Derived.Test.YtfmjgjfbnilpoaaEi
import Derived.Test.YtfmjgjfbnilpoaaFAllx0
namespace Go.Proofs.Ytfmjgjfbnilpoaa.FAll
open Go.RowKit YtfmjgjfbnilpoaaW.PrintWords YtfmjgjfbnilpoaaW.PrintLast YtfmjgjfbnilpoaaW.PrintMore
attribute [local go_sem] feq_walk fne_walk flt_walk fle_walk fgt_walk fge_walk fint_walk fstore_walk run_f64bits run_f64from max2_int min2_int max_two min_two max_three min_three max_four min_four   -- for this text's walks alone
set_option linter.unusedVariables false
set_option linter.unusedSimpArgs false

-- NOT PRINTED: function 68 (trees_all)

-- NOT PRINTED: function 60 (trees_those)

-- NOT PRINTED: function 41 (trees_Leaves)

-- NOT PRINTED: function 22 (lists_fault)

-- NOT PRINTED: function 42 (masks_leaves)

-- NOT PRINTED: function 23 (masks_Marks)

-- NOT PRINTED: function 24 (lists_copied)

-- NOT PRINTED: function 70 (api_Cut_70)

-- NOT PRINTED: function 80 (api_Cut_80)

-- NOT PRINTED: function 77 (api_Cut_77)

-- NOT PRINTED: function 71 (api_Cut_71)

-- NOT PRINTED: function 61 (api_Cut_61)

-- NOT PRINTED: function 44 (api_Cut_44)

-- NOT PRINTED: function 25 (api_Cut_uint64)

-- NOT PRINTED: function 72 (api_List_72)

-- NOT PRINTED: function 81 (api_List_81)

-- NOT PRINTED: function 78 (api_List_78)

-- NOT PRINTED: function 73 (api_List_73)

-- NOT PRINTED: function 63 (api_List_63)

-- NOT PRINTED: function 48 (api_List_48)

-- NOT PRINTED: function 28 (api_List_int)

-- NOT PRINTED: function 8 (lists_Of)

/-! ### thicketref07_Order: function 53 -/
def thicketref07_Order.l0 : Nat → List Int → List Int → Int → List (S71) → Option (List Int)
 | 0, _, _, _, _ => none
 | k + 1, x3, x4, x183000, x183001 => if (x4.length : Int) > 0 then (if 0 ≤ (wrap64 ((x4.length : Int) - 1)) then (if (wrap64 ((x4.length : Int) - 1)) < (x4.length : Int) then (if (wrap64 ((x4.length : Int) - 1)) ≤ (x4.length : Int) then ((some (x4.take ((wrap64 ((x4.length : Int) - 1)) : Int).toNat : List Int)).bind fun y187 => (if x3.length < 17592186044416 then ((some (x3 ++ [rd x4 (wrap64 ((x4.length : Int) - 1))] : List Int)).bind fun y190 => (if 0 ≤ (rd x4 (wrap64 ((x4.length : Int) - 1))) then (if (rd x4 (wrap64 ((x4.length : Int) - 1))) < (x183001.length : Int) then (if ((rd_T71 x183001 (rd x4 (wrap64 ((x4.length : Int) - 1)))).f0) = 1 then (thicketref07_Order.l0 k y190 y187 x183000 x183001) else ((some (([(rd_T71 x183001 (rd x4 (wrap64 ((x4.length : Int) - 1)))).f7, (rd_T71 x183001 (rd x4 (wrap64 ((x4.length : Int) - 1)))).f6] : List Int) : List Int)).bind fun y195 => (if y187.length + y195.length < 17592186044416 then (thicketref07_Order.l0 k y190 (y187 ++ y195) x183000 x183001) else (none)))) else (none)) else (none))) else (none))) else (none)) else (none)) else (none)) else (some x3)
def thicketref07_Order.f (k : Nat) (a0_0 : Int) (l0_1 : List (S71)) : Option (List Int) := thicketref07_Order.l0 k ([] : List Int) (([0] : List Int)) a0_0 l0_1
theorem thicketref07_Order.mono_l : ∀ k, (∀ y0 y1 y2 y3, LeO (thicketref07_Order.l0 k y0 y1 y2 y3) (thicketref07_Order.l0 (k + 1) y0 y1 y2 y3))
 | 0 => fun _ _ _ _ r h => by simp [thicketref07_Order.l0] at h
 | k + 1 => by
  have ih0 := thicketref07_Order.mono_l k
  ·intro y0 y1 y2 y3
   unfold thicketref07_Order.l0
   repeat' first
   | (with_reducible exact ih0 _ _ _ _)
   | (with_reducible exact LeO.refl _)
   | (with_reducible exact LeO.none _)
   | (with_reducible refine LeO.ite ?_ ?_)
   | (with_reducible refine LeO.bind ?_ (fun _ => ?_))
theorem thicketref07_Order.mono : ∀ a0 a1 k, LeO (thicketref07_Order.f k a0 a1) (thicketref07_Order.f (k + 1) a0 a1) := by
 intro a0 a1 k
 have ih0 := thicketref07_Order.mono_l k
 unfold thicketref07_Order.f
 repeat' first
   | (with_reducible exact ih0 _ _ _ _)
   | (with_reducible exact LeO.refl _)
   | (with_reducible exact LeO.none _)
   | (with_reducible refine LeO.ite ?_ ?_)
   | (with_reducible refine LeO.bind ?_ (fun _ => ?_))
set_option maxHeartbeats 8000000 in
set_option maxRecDepth 100000 in
theorem thicketref07_Order.calls (k : Nat) (a0_0 : Int) (A0_1 : Option Addr) (c0_1 : Nat) (l0_1 : List (S71)) (r : List Int) (w : World) (hr0_1 : Kd.C k71 w A0_1 l0_1.length l0_1) (hc0_1 : l0_1.length ≤ c0_1) (h : thicketref07_Order.f k a0_0 l0_1 = some r) :
  Calls Try.prog 53 #[.agg #[.int .i64 a0_0, .slice A0_1 l0_1.length c0_1]] w fun e w' => ∃ v0_ : Value, e = .returned (v0_) ∧ Kd.R (Kd.int .i64) 3 w' w.heap.size (fun _ => True) v0_ r ∧ Below w.heap.size w w' := by
 have hu53 := Try.underlying53
 have hu71 := Try.underlying71
 have HR0_1 := aS_ hr0_1
 have HC0_1 := aS_ hc0_1
 clear hr0_1 hc0_1
 have HB := aS_ (Below.refl w.heap.size w)
 have H : (thicketref07_Order.l0 k ([] : List Int) (([0] : List Int)) a0_0 l0_1) = some r := h
 clear h
 obtain ⟨y183, hy183⟩ : ∃ y_ : List Int, y_ = (([0] : List Int)) := ⟨_, rfl⟩
 (try replace H := bS_ H); rw [← hy183] at H; try dsimp only at H
 have Ny183 := aS_ hy183
 clear hy183
 have H' := aS_ H
 clear H
 go_enter Try.func53, Try.ntmps53
 go_wp2_with (first | ((with_reducible refine gate_dst (N := 1) rfl ?_); refine box_event ?hg (N := 1) ?hd (cs := #[.int .i64 a0_0, .slice A0_1 l0_1.length c0_1]) (t := 53) ?hr ?_; (case hd => rfl); (case hg => rfl); (case hr => first | (go_simp; done) | (go_simp; rfl)); intro gb182 hg w2 hbox hb; have n0_ := aS_ (below_step (kB0 HB) hb); have n1_ := aS_ (hbox); have n2_ := aS_ ((kg hg (kB0 HB) : w.heap.size ≤ gb182)); have n3_ := aS_ ((kg hg (kB0 HB) : w.heap.size ≤ gb182)); clear HB; have HB := n0_; have BK182 := n1_; have GW182 := n2_; have GE182 := n3_; clear n0_ n1_ n2_ n3_; clear hb hbox hg) | ((with_reducible refine gate_dst (N := 7) rfl ?_); refine Kd.R_lit (Kd.int .i64) _ 3 ?hg (N := 7) ?hd (xs := ([0] : List Int)) (inner := [.int .i64 0]) (ok := fun _ => True) (okp := fun _ => True) ?hr ?hp (fun _ hk => hk) trivial (Below.refl _ _) (Nat.le_refl _) (by simp) ?_; (case hd => rfl); (case hg => rfl); (case hr => first | (go_simp; done) | (go_simp; rfl)); (case hp => exact (Reps.one (show Kd.M (Kd.int .i64) _ _ _ 0 [.int .i64 0] from rfl) (Reps.none _ _))); intro v184 w3 ho4 hb hg_ hnew_; clear hg_ hnew_; (first | rw [← Ny183.out] at ho4 | (simp only [Int.reduceToNat] at ho4; rw [← Ny183.out] at ho4)); have n0_ := aS_ (Kd.R_lower ho4 (below_size (kB1 HB GE182))); have n1_ := aS_ (blk_below (g := gb182) (o := .cells #[.int .i64 a0_0, .slice A0_1 l0_1.length c0_1] 53 (0, 0)) (kb BK182) hb); have n2_ := aS_ (below_step (kB1 HB GE182) hb); clear BK182; clear HB; have HO185 := n0_; have BK182 := n1_; have HB := n2_; clear n0_ n1_ n2_; clear hb ho4))
 go_loopg [3, 4] k (fun kq v3 v4 w' => ∃ (x3_1 : List Int) (x4_1 : List Int), Aside0 (thicketref07_Order.l0 kq x3_1 x4_1 a0_0 l0_1 = some r) ∧ Aside0 (kq ≤ k) ∧ Aside0 (Kd.R (Kd.int .i64) 3 w' w.heap.size (fun k_ => some k_ ≠ (v4 : Value).ownBlock) v3 x3_1) ∧ Aside0 (Kd.R (Kd.int .i64) 3 w' w.heap.size (fun k_ => some k_ ≠ (v3 : Value).ownBlock) v4 x4_1) ∧ Aside0 (w'.heap[gb182]? = some (.cells #[.int .i64 a0_0, (.slice A0_1 l0_1.length c0_1)] 53 (0, 0))) ∧ Aside0 (Below w.heap.size w w'))
 case atStart => exact ⟨(([] : List Int)), (y183), H', ⟨Nat.le_refl _⟩, ⟨by first | exact Kd.R_nil _ _ _ _ _ | exact Kd.N_nil _ _ _ _ _ | exact Kd.V_nil _ _ _ _ _ | exact Kd.Q_nil _ _ _ _ _ | exact Kd.S_nil _ _ _ _ _⟩, ⟨by (with_reducible repeat (first | apply Kd.R_alloc | apply Kd.R_drewN | apply Kd.R_drew)); exact Kd.R_mono HO185.out (fun _ hk => (by simp [Value.ownBlock]))⟩, ⟨kb BK182⟩, ⟨kB1 HB GE182⟩⟩
 case round =>
  clear H'
  try clear p2
  obtain ⟨x3_1, x4_1, HA, HK1, HO_3, HO_4, BK182, HB⟩ := hrel
  cases gk with
  | zero => exact absurd HA.out (by simp [thicketref07_Order.l0])
  | succ k1 =>
   have H := HA.out
   clear HA
   simp only [thicketref07_Order.l0] at H
   by_cases c5 : (x4_1.length : Int) > 0
   ·rw [if_pos c5] at H
    have c5b0 := decide_eq_true c5
    have c5b1 : decide (0 < x4_1.length) = true := decide_eq_true (by omega)
    clear c5
    obtain ⟨ji6, hji6⟩ : ∃ j_ : Int, (wrap64 ((x4_1.length : Int) - 1)) = j_ := ⟨_, rfl⟩
    replace H : (if 0 ≤ (ji6) then (if (ji6) < (x4_1.length : Int) then (if (ji6) ≤ (x4_1.length : Int) then ((some (x4_1.take ((ji6) : Int).toNat : List Int)).bind fun y187 => (if x3_1.length < 17592186044416 then ((some (x3_1 ++ [rd x4_1 (ji6)] : List Int)).bind fun y190 => (if 0 ≤ (rd x4_1 (ji6)) then (if (rd x4_1 (ji6)) < (l0_1.length : Int) then (if ((rd_T71 l0_1 (rd x4_1 (ji6))).f0) = 1 then (thicketref07_Order.l0 k1 y190 y187 a0_0 l0_1) else ((some (([(rd_T71 l0_1 (rd x4_1 (ji6))).f7, (rd_T71 l0_1 (rd x4_1 (ji6))).f6] : List Int) : List Int)).bind fun y195 => (if y187.length + y195.length < 17592186044416 then (thicketref07_Order.l0 k1 y190 (y187 ++ y195) a0_0 l0_1) else (none)))) else (none)) else (none))) else (none))) else (none)) else (none)) else (none)) = some r := by first | (rw [hji6] at H; exact H) | (simp only [hji6] at H ⊢; exact H)
    have hji6w : (IntKind.i64.wrap ((x4_1.length : Int) - 1)) = ji6 := (i64_w _).trans hji6
    by_cases c7 : 0 ≤ (ji6)
    ·rw [if_pos c7] at H
     have c7b0 := decide_eq_true c7
     clear c7
     by_cases c8 : (ji6) < (x4_1.length : Int)
     ·rw [if_pos c8] at H
      have c8b0 := decide_eq_true c8
      clear c8
      by_cases c9 : (ji6) ≤ (x4_1.length : Int)
      ·rw [if_pos c9] at H
       have c9b0 := eq_true c9
       have c9b1 := decide_eq_true c9
       clear c9
       obtain ⟨y187, hy187⟩ : ∃ y_ : List Int, y_ = (x4_1.take ((ji6) : Int).toNat) := ⟨_, rfl⟩
       (try replace H := bS_ H); rw [← hy187] at H; try dsimp only at H
       have Ny187 := aS_ hy187
       clear hy187
       by_cases c10 : x3_1.length < 17592186044416
       ·rw [if_pos c10] at H
        have LMc10 := aS_ c10
        clear c10
        obtain ⟨y190, hy190⟩ : ∃ y_ : List Int, y_ = (x3_1 ++ [rd x4_1 (ji6)]) := ⟨_, rfl⟩
        (try replace H := bS_ H); rw [← hy190] at H; try dsimp only at H
        have Ny190 := aS_ hy190
        clear hy190
        by_cases c11 : 0 ≤ (rd x4_1 (ji6))
        ·rw [if_pos c11] at H
         have c11b0 := decide_eq_true c11
         clear c11
         by_cases c12 : (rd x4_1 (ji6)) < (l0_1.length : Int)
         ·rw [if_pos c12] at H
          have c12b0 := decide_eq_true c12
          clear c12
          by_cases c13 : ((rd_T71 l0_1 (rd x4_1 (ji6))).f0) = 1
          ·rw [if_pos c13] at H
           have c13b0 := beq_iff_eq.mpr c13
           have c13b1 := bne_eq_false_iff_eq.mpr c13
           clear c13
           have H' := aS_ H
           clear H
           obtain ⟨Ao14, co14, eo14⟩ := Kd.R_slice HO_4.out
           subst eo14
           have p186 : 0 ≤ ((ji6) : Int) := of_decide_eq_true ka
           have q186 : (ji6) < (x4_1.length : Int) := of_decide_eq_true ka
           obtain ⟨ad186, e186, hx186_0⟩ := Kd.at_int (Kd.R_reads' HO_4.out).2.2 (ji6) p186 q186
           cases e186
           replace p186 := eq_true p186
           replace q186 := eq_true q186
           have q15 : ((ji6) : Int) ≤ ((x4_1.length : Int) : Int) := of_decide_eq_true ka
           obtain ⟨i015, hi015, _, hsz15, _⟩ := info_parts info3
           have hcut15 := cut_to (P := Try.prog) 54 3 .i64 Try.underlying54 hi015 (some ad186) x4_1.length co14 (ji6) (of_decide_eq_true ka) q15 (Kd.R_reads' HO_4.out).2.1
           have hr15 := Kd.R_take (m := ((ji6) : Int).toNat) HO_4.out (by omega)
           have hy15 : y187.length = ((ji6) : Int).toNat := (by rw [Ny187.out, List.length_take]; omega)
           rw [← Ny187.out] at hr15
           rw [← hy15] at hr15 hcut15
           clear hy15 hi015 hsz15 HO_4
           have HO189 := aS_ hr15
           clear hr15
           replace q15 := eq_true q15
           go_wp2_with (first | ((with_reducible refine gate_builtin (b := .append) (xs := #[.tmp 22, .tmp 24]) rfl ?_); at_builtin; refine Kd.R_append (Kd.int .i64) (w0 := w) w.heap.size rfl (.tmp 22) (.tmp 24) 54 3 (.int .i64 0) 8 rfl Try.underlying54 info3 rfl (by decide) (by omega) u3 x3_1 (rd x4_1 (ji6)) [.int .i64 (rd x4_1 (ji6))] (fun k_ => some k_ ≠ (.slice (some ad186) y187.length co14 : Value).ownBlock) (fun _ => False) rfl rfl ?aP (fun _ hk => hk.elim) ?aF ?aO ?aB ?aS ?aL ?_; (case aP => exact rfl); (case aB => exact (kB1 HB GE182)); (case aF => exact (fun k_ hk => Kd.fresh' (Kd.R_lt (kR HO189)) k_ hk)); (case aO => exact (kR HO_3)); (case aS => exact (below_size (kB1 HB GE182))); (case aL => have := LMc10.out; omega); intro v191 w16 ho hb hg hat; rw [← Ny190.out] at ho; have n0_ := aS_ (Kd.R_after (ok := (fun _ => True)) (by (with_reducible repeat (first | apply Kd.R_alloc | apply Kd.R_drewN | apply Kd.R_drew)); exact Kd.R_mono HO189.out (fun _ hk => ⟨trivial, hk⟩)) hg hat); have n1_ := aS_ (blk_grown (g := gb182) (o := .cells #[.int .i64 a0_0, .slice A0_1 l0_1.length c0_1] 53 (0, 0)) (kb BK182) hg (Kd.R_ne HO_3.out BK182.out (by decide))); have n2_ := aS_ (hb); have n3_ := aS_ (ho); clear HO189; clear BK182; clear HB; clear HO_3; have HO189 := n0_; have BK182 := n1_; have HB := n2_; have HO192 := n3_; clear n0_ n1_ n2_ n3_; clear ho hb hg hat; have hcz17 := blk2 (w := w16) BK182.out; have p193 : 0 ≤ ((rd x4_1 (ji6)) : Int) := of_decide_eq_true ka; have q193 : (rd x4_1 (ji6)) < (l0_1.length : Int) := of_decide_eq_true ka; obtain ⟨ad193, A193_4, c193_4, e193, hx193_0, hx193_1, hx193_2, hx193_3, hx193_4, hx193_5, hx193_6, hx193_7, hl193_4, hi193_4⟩ := at_T71 HR0_1.out (rd x4_1 (ji6)) p193 q193; cases e193; replace hx193_0 := cB_ HB.out hx193_0; replace hx193_1 := cB_ HB.out hx193_1; replace hx193_2 := cB_ HB.out hx193_2; replace hx193_3 := cB_ HB.out hx193_3; replace hx193_4 := cB_ HB.out hx193_4; replace hx193_5 := cB_ HB.out hx193_5; replace hx193_6 := cB_ HB.out hx193_6; replace hx193_7 := cB_ HB.out hx193_7; have HR193_4 := aS_ hi193_4; have HC193_4 := aS_ hl193_4; clear hi193_4 hl193_4; replace p193 := eq_true p193; replace q193 := eq_true q193) | ((with_reducible refine gate_dst (N := 6) rfl ?_); refine box_event ?hg (N := 6) ?hd (cs := #[.int .u8 0, .int .i64 0, .int .i64 0, .float .f64 0, .slice none 0 0, .int .u8 0, .int .i64 0, .int .i64 0]) (t := 71) ?hr ?_; (case hd => rfl); (case hg => rfl); (case hr => first | (go_simp; done) | (go_simp; rfl)); intro gb194 hg w18 hbox hb; have n0_ := aS_ (Kd.R_below (kR HO189) hb); have n1_ := aS_ (Kd.R_below (kR HO192) hb); have n2_ := aS_ (blk_below (g := gb182) (o := .cells #[.int .i64 a0_0, .slice (some ad193) l0_1.length c0_1] 53 (0, 0)) (kb BK182) hb); have n3_ := aS_ (below_step (kB1 HB GE182) hb); have n4_ := aS_ (hbox); have n5_ := aS_ ((kg hg (kB1 HB GE182) : w.heap.size ≤ gb194)); have n6_ := aS_ ((kg hg (kB1 HB GE182) : w.heap.size ≤ gb194)); have n7_ := aS_ ((by rw [hg]; exact Nat.ne_of_lt (blk_lt (g := gb182) (o := .cells #[.int .i64 a0_0, .slice (some ad193) l0_1.length c0_1] 53 (0, 0)) (kb BK182)) : gb182 ≠ gb194)); have n8_ := aS_ ((by rw [hg]; exact Nat.ne_of_gt (blk_lt (g := gb182) (o := .cells #[.int .i64 a0_0, .slice (some ad193) l0_1.length c0_1] 53 (0, 0)) (kb BK182)) : gb194 ≠ gb182)); clear HO189; clear HO192; clear BK182; clear HB; have HO189 := n0_; have HO192 := n1_; have BK182 := n2_; have HB := n3_; have BK194 := n4_; have GW194 := n5_; have GE194 := n6_; have NB182_194 := n7_; have NB194_182 := n8_; clear n0_ n1_ n2_ n3_ n4_ n5_ n6_ n7_ n8_; clear hb hbox hg; have hnb19 := NB194_182.out; have hnc19 := NB182_194.out; have hcz20 := blk8 (w := w18) BK194.out))
           go_roundg k1
           case measure => have := HK1.out; omega
           case rel => exact ⟨(y190), (y187), H', ⟨by have := HK1.out; omega⟩, ⟨by (with_reducible repeat (first | apply Kd.R_alloc | apply Kd.R_drewN | apply Kd.R_drew)); exact Kd.R_mono (Kd.R_far8 (Kd.R_types HO192.out BK194.out (by decide)) (fun _ hk => hk.2) _ _ _ _ _ _ _ _) (fun _ hk => hk.1)⟩, ⟨by (with_reducible repeat (first | apply Kd.R_alloc | apply Kd.R_drewN | apply Kd.R_drew)); exact Kd.R_mono (Kd.R_far8 (Kd.R_types HO189.out BK194.out (by decide)) (fun _ hk => hk.2) _ _ _ _ _ _ _ _) (fun _ hk => hk.1.2)⟩, ⟨by (with_reducible repeat (first | refine blk_drewN ?_ _ | refine blk_drew ?_ | refine blk_alloc ?_ _)); refine blk_far8 ?_ NB182_194.out _ _ _ _ _ _ _ _; (with_reducible repeat (first | refine blk_drewN ?_ _ | refine blk_drew ?_ | refine blk_alloc ?_ _)); exact BK182.out⟩, ⟨kB2 HB GE182 GE194⟩⟩
          ·rw [if_neg c13] at H
           have c13b0 := beq_eq_false_iff_ne.mpr c13
           have c13b1 := bne_iff_ne.mpr c13
           obtain ⟨y195, hy195⟩ : ∃ y_ : List Int, y_ = (([(rd_T71 l0_1 (rd x4_1 (ji6))).f7, (rd_T71 l0_1 (rd x4_1 (ji6))).f6] : List Int)) := ⟨_, rfl⟩
           (try replace H := bS_ H); rw [← hy195] at H; try dsimp only at H
           have Ny195 := aS_ hy195
           clear hy195
           by_cases c21 : y187.length + y195.length < 17592186044416
           ·rw [if_pos c21] at H
            have LMc21 := aS_ c21
            clear c21
            obtain ⟨y198, hy198⟩ : ∃ y_ : List Int, y_ = (y187 ++ y195) := ⟨_, rfl⟩
            (try replace H := bS_ H); rw [← hy198] at H; try dsimp only at H
            have Ny198 := aS_ hy198
            clear hy198
            have H' := aS_ H
            clear H
            obtain ⟨Ao22, co22, eo22⟩ := Kd.R_slice HO_4.out
            subst eo22
            have p186 : 0 ≤ ((ji6) : Int) := of_decide_eq_true ka
            have q186 : (ji6) < (x4_1.length : Int) := of_decide_eq_true ka
            obtain ⟨ad186, e186, hx186_0⟩ := Kd.at_int (Kd.R_reads' HO_4.out).2.2 (ji6) p186 q186
            cases e186
            replace p186 := eq_true p186
            replace q186 := eq_true q186
            have q23 : ((ji6) : Int) ≤ ((x4_1.length : Int) : Int) := of_decide_eq_true ka
            obtain ⟨i023, hi023, _, hsz23, _⟩ := info_parts info3
            have hcut23 := cut_to (P := Try.prog) 54 3 .i64 Try.underlying54 hi023 (some ad186) x4_1.length co22 (ji6) (of_decide_eq_true ka) q23 (Kd.R_reads' HO_4.out).2.1
            have hr23 := Kd.R_take (m := ((ji6) : Int).toNat) HO_4.out (by omega)
            have hy23 : y187.length = ((ji6) : Int).toNat := (by rw [Ny187.out, List.length_take]; omega)
            rw [← Ny187.out] at hr23
            rw [← hy23] at hr23 hcut23
            clear hy23 hi023 hsz23 HO_4
            have HO189 := aS_ hr23
            clear hr23
            replace q23 := eq_true q23
            go_wp2_with (first | ((with_reducible refine gate_builtin (b := .append) (xs := #[.tmp 22, .tmp 24]) rfl ?_); at_builtin; refine Kd.R_append (Kd.int .i64) (w0 := w) w.heap.size rfl (.tmp 22) (.tmp 24) 54 3 (.int .i64 0) 8 rfl Try.underlying54 info3 rfl (by decide) (by omega) u3 x3_1 (rd x4_1 (ji6)) [.int .i64 (rd x4_1 (ji6))] (fun k_ => some k_ ≠ (.slice (some ad186) y187.length co22 : Value).ownBlock) (fun _ => False) rfl rfl ?aP (fun _ hk => hk.elim) ?aF ?aO ?aB ?aS ?aL ?_; (case aP => exact rfl); (case aB => exact (kB1 HB GE182)); (case aF => exact (fun k_ hk => Kd.fresh' (Kd.R_lt (kR HO189)) k_ hk)); (case aO => exact (kR HO_3)); (case aS => exact (below_size (kB1 HB GE182))); (case aL => have := LMc10.out; omega); intro v191 w24 ho hb hg hat; rw [← Ny190.out] at ho; have n0_ := aS_ (Kd.R_after (ok := (fun _ => True)) (by (with_reducible repeat (first | apply Kd.R_alloc | apply Kd.R_drewN | apply Kd.R_drew)); exact Kd.R_mono HO189.out (fun _ hk => ⟨trivial, hk⟩)) hg hat); have n1_ := aS_ (blk_grown (g := gb182) (o := .cells #[.int .i64 a0_0, .slice A0_1 l0_1.length c0_1] 53 (0, 0)) (kb BK182) hg (Kd.R_ne HO_3.out BK182.out (by decide))); have n2_ := aS_ (hb); have n3_ := aS_ (ho); clear HO189; clear BK182; clear HB; clear HO_3; have HO189 := n0_; have BK182 := n1_; have HB := n2_; have HO192 := n3_; clear n0_ n1_ n2_ n3_; clear ho hb hg hat; have hcz25 := blk2 (w := w24) BK182.out; have p193 : 0 ≤ ((rd x4_1 (ji6)) : Int) := of_decide_eq_true ka; have q193 : (rd x4_1 (ji6)) < (l0_1.length : Int) := of_decide_eq_true ka; obtain ⟨ad193, A193_4, c193_4, e193, hx193_0, hx193_1, hx193_2, hx193_3, hx193_4, hx193_5, hx193_6, hx193_7, hl193_4, hi193_4⟩ := at_T71 HR0_1.out (rd x4_1 (ji6)) p193 q193; cases e193; replace hx193_0 := cB_ HB.out hx193_0; replace hx193_1 := cB_ HB.out hx193_1; replace hx193_2 := cB_ HB.out hx193_2; replace hx193_3 := cB_ HB.out hx193_3; replace hx193_4 := cB_ HB.out hx193_4; replace hx193_5 := cB_ HB.out hx193_5; replace hx193_6 := cB_ HB.out hx193_6; replace hx193_7 := cB_ HB.out hx193_7; have HR193_4 := aS_ hi193_4; have HC193_4 := aS_ hl193_4; clear hi193_4 hl193_4; replace p193 := eq_true p193; replace q193 := eq_true q193) | ((with_reducible refine gate_dst (N := 6) rfl ?_); refine box_event ?hg (N := 6) ?hd (cs := #[.int .u8 0, .int .i64 0, .int .i64 0, .float .f64 0, .slice none 0 0, .int .u8 0, .int .i64 0, .int .i64 0]) (t := 71) ?hr ?_; (case hd => rfl); (case hg => rfl); (case hr => first | (go_simp; done) | (go_simp; rfl)); intro gb194 hg w26 hbox hb; have n0_ := aS_ (Kd.R_below (kR HO189) hb); have n1_ := aS_ (Kd.R_below (kR HO192) hb); have n2_ := aS_ (blk_below (g := gb182) (o := .cells #[.int .i64 a0_0, .slice (some ad193) l0_1.length c0_1] 53 (0, 0)) (kb BK182) hb); have n3_ := aS_ (below_step (kB1 HB GE182) hb); have n4_ := aS_ (hbox); have n5_ := aS_ ((kg hg (kB1 HB GE182) : w.heap.size ≤ gb194)); have n6_ := aS_ ((kg hg (kB1 HB GE182) : w.heap.size ≤ gb194)); have n7_ := aS_ ((by rw [hg]; exact Nat.ne_of_lt (blk_lt (g := gb182) (o := .cells #[.int .i64 a0_0, .slice (some ad193) l0_1.length c0_1] 53 (0, 0)) (kb BK182)) : gb182 ≠ gb194)); have n8_ := aS_ ((by rw [hg]; exact Nat.ne_of_gt (blk_lt (g := gb182) (o := .cells #[.int .i64 a0_0, .slice (some ad193) l0_1.length c0_1] 53 (0, 0)) (kb BK182)) : gb194 ≠ gb182)); clear HO189; clear HO192; clear BK182; clear HB; have HO189 := n0_; have HO192 := n1_; have BK182 := n2_; have HB := n3_; have BK194 := n4_; have GW194 := n5_; have GE194 := n6_; have NB182_194 := n7_; have NB194_182 := n8_; clear n0_ n1_ n2_ n3_ n4_ n5_ n6_ n7_ n8_; clear hb hbox hg; have hnb27 := NB194_182.out; have hnc27 := NB182_194.out; have hcz28 := blk8 (w := w26) BK194.out) | ((with_reducible refine gate_dst (N := 39) rfl ?_); refine Kd.R_lit (Kd.int .i64) _ 3 ?hg (N := 39) ?hd (xs := ([(rd_T71 l0_1 (rd x4_1 (ji6))).f7, (rd_T71 l0_1 (rd x4_1 (ji6))).f6] : List Int)) (inner := [.int .i64 ((rd_T71 l0_1 (rd x4_1 (ji6))).f7), .int .i64 ((rd_T71 l0_1 (rd x4_1 (ji6))).f6)]) (ok := fun _ => True) (okp := fun _ => True) ?hr ?hp (fun _ hk => hk) trivial (Below.refl _ _) (Nat.le_refl _) (by simp) ?_; (case hd => rfl); (case hg => rfl); (case hr => first | (go_simp; done) | (go_simp; rfl)); (case hp => exact (Reps.one (show Kd.M (Kd.int .i64) _ _ _ ((rd_T71 l0_1 (rd x4_1 (ji6))).f7) [.int .i64 ((rd_T71 l0_1 (rd x4_1 (ji6))).f7)] from rfl) (Reps.one (show Kd.M (Kd.int .i64) _ _ _ ((rd_T71 l0_1 (rd x4_1 (ji6))).f6) [.int .i64 ((rd_T71 l0_1 (rd x4_1 (ji6))).f6)] from rfl) (Reps.none _ _)))); intro v196 w29 ho30 hb hg_ hnew_; clear hg_ hnew_; (first | rw [← Ny195.out] at ho30 | (simp only [Int.reduceToNat] at ho30; rw [← Ny195.out] at ho30)); have n0_ := aS_ (Kd.R_elder' (by (with_reducible repeat (first | apply Kd.R_alloc | apply Kd.R_drewN | apply Kd.R_drew)); exact (Kd.R_mono (Kd.R_far8 (Kd.R_types HO189.out BK194.out (by decide)) (fun _ hk => hk.2) _ _ _ _ _ _ _ _) (fun _ h_ => h_.1))) (Kd.R_base ho30) hb); have n1_ := aS_ (Kd.R_elder' (by (with_reducible repeat (first | apply Kd.R_alloc | apply Kd.R_drewN | apply Kd.R_drew)); exact (Kd.R_mono (Kd.R_far8 (Kd.R_types HO192.out BK194.out (by decide)) (fun _ hk => hk.2) _ _ _ _ _ _ _ _) (fun _ h_ => h_.1))) (Kd.R_base ho30) hb); have n2_ := aS_ (Kd.R_lower (Kd.R_new' (Kd.R_new' ho30 (Kd.R_lt (by (with_reducible repeat (first | apply Kd.R_alloc | apply Kd.R_drewN | apply Kd.R_drew)); exact (Kd.R_mono (Kd.R_far8 (Kd.R_types HO189.out BK194.out (by decide)) (fun _ hk => hk.2) _ _ _ _ _ _ _ _) (fun _ h_ => h_.1))))) (Kd.R_lt (by (with_reducible repeat (first | apply Kd.R_alloc | apply Kd.R_drewN | apply Kd.R_drew)); exact (Kd.R_mono (Kd.R_far8 (Kd.R_types HO192.out BK194.out (by decide)) (fun _ hk => hk.2) _ _ _ _ _ _ _ _) (fun _ h_ => h_.1))))) (below_size (kB2 HB GE182 GE194))); have n3_ := aS_ (blk_below (g := gb182) (o := .cells #[.int .i64 a0_0, .slice (some ad193) l0_1.length c0_1] 53 (0, 0)) (by (with_reducible repeat (first | refine blk_drewN ?_ _ | refine blk_drew ?_ | refine blk_alloc ?_ _)); refine blk_far8 ?_ NB182_194.out _ _ _ _ _ _ _ _; (with_reducible repeat (first | refine blk_drewN ?_ _ | refine blk_drew ?_ | refine blk_alloc ?_ _)); exact BK182.out) hb); have n4_ := aS_ (blk_below (g := gb194) (o := .cells #[.int .u8 ((rd_T71 l0_1 (rd x4_1 (ji6))).f0), .int .i64 ((rd_T71 l0_1 (rd x4_1 (ji6))).f1), .int .i64 ((rd_T71 l0_1 (rd x4_1 (ji6))).f2), .float .f64 ((rd_T71 l0_1 (rd x4_1 (ji6))).f3), .slice A193_4 ((rd_T71 l0_1 (rd x4_1 (ji6))).f4).length c193_4, .int .u8 ((rd_T71 l0_1 (rd x4_1 (ji6))).f5), .int .i64 ((rd_T71 l0_1 (rd x4_1 (ji6))).f6), .int .i64 ((rd_T71 l0_1 (rd x4_1 (ji6))).f7)] 71 (0, 0)) (by (with_reducible repeat (first | refine blk_drewN ?_ _ | refine blk_drew ?_ | refine blk_alloc ?_ _)); exact blk_put8 (kb BK194) _ _ _ _ _ _ _ _) hb); have n5_ := aS_ (below_step (kB2 HB GE182 GE194) hb); clear HO189; clear HO192; clear BK182; clear BK194; clear HB; have HO189 := n0_; have HO192 := n1_; have HO197 := n2_; have BK182 := n3_; have BK194 := n4_; have HB := n5_; clear n0_ n1_ n2_ n3_ n4_ n5_; clear hb ho30; obtain ⟨Ao32, co32, eo32⟩ := Kd.R_slice HO197.out; subst eo32) | ((with_reducible refine gate_builtin (b := .append) (xs := #[.tmp 34, .tmp 39]) rfl ?_); at_builtin; refine Kd.R_append_rows (Kd.int .i64) (w0 := w) w.heap.size rfl (.tmp 34) (.tmp 39) 54 3 (.int .i64 0) 8 rfl Try.underlying54 info3 rfl (by decide) (by omega) (.slice (some ad186) y187.length co22) y187 y195 _ _ _ (fun k_ => some k_ ≠ (v191 : Value).ownBlock ∧ some k_ ≠ (.slice Ao32 y195.length co32 : Value).ownBlock) (fun _ => False) rfl rfl ?aO ?aR (fun _ _ h => h) (fun _ h => h.elim) ?aF ?aB ?aS ?aL ?_; (case aR => repeat (first | exact (Kd.R_reads' HO197.out).2.2 | (with_reducible refine Kd.C_alloc ?_ _) | (with_reducible refine Kd.C_drewN ?_ _) | (with_reducible refine Kd.C_drew ?_))); (case aB => exact (kB2 HB GE182 GE194)); (case aF => exact (fun k_ hk => ⟨Kd.fresh' (Kd.R_lt (kR HO192)) k_ hk, Kd.fresh' (Kd.R_lt (kR HO197)) k_ hk⟩)); (case aO => exact (by (with_reducible repeat (first | apply Kd.R_alloc | apply Kd.R_drewN | apply Kd.R_drew)); exact Kd.R_mono HO189.out (fun _ hk => ⟨hk.1.2, hk.2⟩))); (case aS => exact (below_size (kB2 HB GE182 GE194))); (case aL => have := LMc21.out; omega); intro v199 w31 ho hb hg hat; rw [← Ny198.out] at ho; have n0_ := aS_ (blk_grown (g := gb182) (o := .cells #[.int .i64 a0_0, .slice (some ad193) l0_1.length c0_1] 53 (0, 0)) (kb BK182) hg (Kd.R_ne HO189.out BK182.out (by decide))); have n1_ := aS_ (Kd.R_after (ok := (fun k_ => some k_ ≠ (.slice Ao32 y195.length co32 : Value).ownBlock)) (by (with_reducible repeat (first | apply Kd.R_alloc | apply Kd.R_drewN | apply Kd.R_drew)); exact Kd.R_mono HO192.out (fun _ hk => ⟨hk.2, hk.1⟩)) hg hat); have n2_ := aS_ (blk_grown (g := gb194) (o := .cells #[.int .u8 ((rd_T71 l0_1 (rd x4_1 (ji6))).f0), .int .i64 ((rd_T71 l0_1 (rd x4_1 (ji6))).f1), .int .i64 ((rd_T71 l0_1 (rd x4_1 (ji6))).f2), .float .f64 ((rd_T71 l0_1 (rd x4_1 (ji6))).f3), .slice A193_4 ((rd_T71 l0_1 (rd x4_1 (ji6))).f4).length c193_4, .int .u8 ((rd_T71 l0_1 (rd x4_1 (ji6))).f5), .int .i64 ((rd_T71 l0_1 (rd x4_1 (ji6))).f6), .int .i64 ((rd_T71 l0_1 (rd x4_1 (ji6))).f7)] 71 (0, 0)) (kb BK194) hg (Kd.R_ne HO189.out BK194.out (by decide))); have n3_ := aS_ (Kd.R_after (ok := (fun k_ => some k_ ≠ (v191 : Value).ownBlock)) (by (with_reducible repeat (first | apply Kd.R_alloc | apply Kd.R_drewN | apply Kd.R_drew)); exact Kd.R_mono HO197.out (fun _ hk => ⟨hk.2, hk.1.2⟩)) hg hat); have n4_ := aS_ (hb); have n5_ := aS_ (ho); clear BK182; clear HO192; clear BK194; clear HO197; clear HB; clear HO189; have BK182 := n0_; have HO192 := n1_; have BK194 := n2_; have HO197 := n3_; have HB := n4_; have HO200 := n5_; clear n0_ n1_ n2_ n3_ n4_ n5_; clear ho hb hg hat))
            go_roundg k1
            case measure => have := HK1.out; omega
            case rel => exact ⟨(y190), (y198), H', ⟨by have := HK1.out; omega⟩, ⟨by (with_reducible repeat (first | apply Kd.R_alloc | apply Kd.R_drewN | apply Kd.R_drew)); exact Kd.R_mono HO192.out (fun _ hk => hk.2)⟩, ⟨by (with_reducible repeat (first | apply Kd.R_alloc | apply Kd.R_drewN | apply Kd.R_drew)); exact Kd.R_mono HO200.out (fun _ hk => hk.1)⟩, ⟨kb BK182⟩, ⟨kB2 HB GE182 GE194⟩⟩
           ·rw [if_neg c21] at H
            exact absurd H (by simp)
         ·rw [if_neg c12] at H
          exact absurd H (by simp)
        ·rw [if_neg c11] at H
         exact absurd H (by simp)
       ·rw [if_neg c10] at H
        exact absurd H (by simp)
      ·rw [if_neg c9] at H
       exact absurd H (by simp)
     ·rw [if_neg c8] at H
      exact absurd H (by simp)
    ·rw [if_neg c7] at H
     exact absurd H (by simp)
   ·rw [if_neg c5] at H
    have c5b0 := decide_eq_false c5
    have c5b1 : decide (0 < x4_1.length) = false := decide_eq_false (by omega)
    clear c5
    obtain rfl := Option.some.inj H
    obtain ⟨Ao33, co33, eo33⟩ := Kd.R_slice HO_4.out
    subst eo33
    go_wp2
    go_ret
    exact ⟨_, by first | rfl | (simp [errW_none, errW_some] <;> rfl) | (simp [*, errW_none, errW_some] <;> rfl), by (with_reducible repeat (first | apply Kd.R_alloc | apply Kd.R_drewN | apply Kd.R_drew)); exact Kd.R_mono HO_3.out (fun _ hk => trivial), kB1 HB GE182⟩

/-! ### thicketref07_nan: function 83 -/
def thicketref07_nan.f (a0 : Nat) : Option (Bool) := some (!(feq a0 a0))
set_option maxHeartbeats 8000000 in
set_option maxRecDepth 100000 in
theorem thicketref07_nan.calls (a0 : Nat) (r : Bool) (w : World) (h : thicketref07_nan.f a0 = some r) :
  Calls Try.prog 83 #[.float .f64 a0] w fun e w' => e = .returned (.bool r) ∧ Drawn0 w w' := by
 have H : (some (!(feq a0 a0))) = some r := h
 clear h
 obtain rfl := Option.some.inj H
 go_enter Try.func83, Try.ntmps83
 go_wp2
 go_ret
 exact ⟨by first | rfl | (simp; done) | (simp [*]; done), by repeat (first | exact Drawn0.refl _ | apply Drawn0.step)⟩

/-! ### thicketref07_Cats: function 84 -/
def thicketref07_Cats.l0 : Nat → List Int → List Int → Int → Int → Option (Bool)
 | 0, _, _, _, _ => none
 | k + 1, x0, x5, x6, x7 => if x7 < x6 then (if 0 ≤ x7 then (if x7 < (x5.length : Int) then (if (rd x5 x7) < 0 then (some false) else (if (rd x5 x7) ≥ 1024 then (some false) else (if x7 > 0 then (if 0 ≤ (wrap64 (x7 - 1)) then (if (wrap64 (x7 - 1)) < (x0.length : Int) then (if (rd x5 x7) ≤ (rd x0 (wrap64 (x7 - 1))) then (some false) else (thicketref07_Cats.l0 k x0 x5 x6 (wrap64 (x7 + 1)))) else (none)) else (none)) else (thicketref07_Cats.l0 k x0 x5 x6 (wrap64 (x7 + 1)))))) else (none)) else (none)) else (some (decide ((x0.length : Int) > 0)))
def thicketref07_Cats.f (k : Nat) (l0 : List Int) : Option (Bool) := thicketref07_Cats.l0 k l0 l0 (l0.length : Int) 0
theorem thicketref07_Cats.mono_l : ∀ k, (∀ y0 y1 y2 y3, LeO (thicketref07_Cats.l0 k y0 y1 y2 y3) (thicketref07_Cats.l0 (k + 1) y0 y1 y2 y3))
 | 0 => fun _ _ _ _ r h => by simp [thicketref07_Cats.l0] at h
 | k + 1 => by
  have ih0 := thicketref07_Cats.mono_l k
  ·intro y0 y1 y2 y3
   unfold thicketref07_Cats.l0
   repeat' first
   | (with_reducible exact ih0 _ _ _ _)
   | (with_reducible exact LeO.refl _)
   | (with_reducible exact LeO.none _)
   | (with_reducible refine LeO.ite ?_ ?_)
   | (with_reducible refine LeO.bind ?_ (fun _ => ?_))
theorem thicketref07_Cats.mono : ∀ a0 k, LeO (thicketref07_Cats.f k a0) (thicketref07_Cats.f (k + 1) a0) := by
 intro a0 k
 have ih0 := thicketref07_Cats.mono_l k
 unfold thicketref07_Cats.f
 repeat' first
   | (with_reducible exact ih0 _ _ _ _)
   | (with_reducible exact LeO.refl _)
   | (with_reducible exact LeO.none _)
   | (with_reducible refine LeO.ite ?_ ?_)
   | (with_reducible refine LeO.bind ?_ (fun _ => ?_))
set_option maxHeartbeats 8000000 in
set_option maxRecDepth 100000 in
theorem thicketref07_Cats.calls (k : Nat) (A0 : Option Addr) (c0 : Nat) (l0 : List Int) (r : Bool) (w : World) (hr0 : Kd.C (Kd.int .i64) w A0 l0.length l0) (hc0 : l0.length ≤ c0) (h : thicketref07_Cats.f k l0 = some r) :
  Calls Try.prog 84 #[.slice A0 l0.length c0] w fun e w' => e = .returned (.bool r) ∧ Drawn0 w w' := by
 have HR0 := aS_ hr0
 have HC0 := aS_ hc0
 clear hr0 hc0
 have H : (thicketref07_Cats.l0 k l0 l0 (l0.length : Int) 0) = some r := h
 clear h
 have H' := aS_ H
 clear H
 go_enter Try.func84, Try.ntmps84
 go_wp2
 go_loopg [7] k (fun kq v7 w' => ∃ (x7_1 : Int), v7 = .int .i64 x7_1 ∧ Aside0 (thicketref07_Cats.l0 kq l0 l0 (l0.length : Int) x7_1 = some r) ∧ Aside0 (kq ≤ k) ∧ Drawn0 w w')
 case atStart => exact ⟨(0), kr, H', ⟨Nat.le_refl _⟩, by repeat (first | exact Drawn0.refl _ | apply Drawn0.step)⟩
 case round =>
  clear H'
  obtain ⟨x7_1, rfl, HA, HK1, ⟨m1, rfl⟩⟩ := hrel
  cases gk with
  | zero => exact absurd HA.out (by simp [thicketref07_Cats.l0])
  | succ k1 =>
   have H := HA.out
   clear HA
   simp only [thicketref07_Cats.l0] at H
   by_cases c2 : x7_1 < (l0.length : Int)
   ·rw [if_pos c2] at H
    have c2b0 := decide_eq_true c2
    clear c2
    by_cases c3 : 0 ≤ x7_1
    ·rw [if_pos c3] at H
     have c3b0 := decide_eq_true c3
     clear c3
     by_cases c4 : x7_1 < (l0.length : Int)
     ·rw [if_pos c4] at H
      have c4b0 := decide_eq_true c4
      clear c4
      by_cases c5 : (rd l0 x7_1) < 0
      ·rw [if_pos c5] at H
       have c5b0 := decide_eq_true c5
       clear c5
       obtain rfl := Option.some.inj H
       have p201 : 0 ≤ (x7_1 : Int) := of_decide_eq_true ka
       have q201 : x7_1 < (l0.length : Int) := of_decide_eq_true ka
       obtain ⟨ad201, e201, hx201_0⟩ := Kd.at_int HR0.out x7_1 p201 q201
       cases e201
       replace p201 := eq_true p201
       replace q201 := eq_true q201
       go_wp2
       go_ret
       exact ⟨by first | rfl | (simp; done) | (simp [*]; done), by repeat (first | exact Drawn0.refl _ | apply Drawn0.step)⟩
      ·rw [if_neg c5] at H
       have c5b0 := decide_eq_false c5
       clear c5
       by_cases c6 : (rd l0 x7_1) ≥ 1024
       ·rw [if_pos c6] at H
        have c6b0 := decide_eq_true c6
        clear c6
        obtain rfl := Option.some.inj H
        have p201 : 0 ≤ (x7_1 : Int) := of_decide_eq_true ka
        have q201 : x7_1 < (l0.length : Int) := of_decide_eq_true ka
        obtain ⟨ad201, e201, hx201_0⟩ := Kd.at_int HR0.out x7_1 p201 q201
        cases e201
        replace p201 := eq_true p201
        replace q201 := eq_true q201
        go_wp2
        go_ret
        exact ⟨by first | rfl | (simp; done) | (simp [*]; done), by repeat (first | exact Drawn0.refl _ | apply Drawn0.step)⟩
       ·rw [if_neg c6] at H
        have c6b0 := decide_eq_false c6
        clear c6
        by_cases c7 : x7_1 > 0
        ·rw [if_pos c7] at H
         have c7b0 := decide_eq_true c7
         clear c7
         obtain ⟨ji8, hji8⟩ : ∃ j_ : Int, (wrap64 (x7_1 - 1)) = j_ := ⟨_, rfl⟩
         replace H : (if 0 ≤ (ji8) then (if (ji8) < (l0.length : Int) then (if (rd l0 x7_1) ≤ (rd l0 (ji8)) then (some false) else (thicketref07_Cats.l0 k1 l0 l0 (l0.length : Int) (wrap64 (x7_1 + 1)))) else (none)) else (none)) = some r := by first | (rw [hji8] at H; exact H) | (simp only [hji8] at H ⊢; exact H)
         have hji8w : (IntKind.i64.wrap (x7_1 - 1)) = ji8 := (i64_w _).trans hji8
         by_cases c9 : 0 ≤ (ji8)
         ·rw [if_pos c9] at H
          have c9b0 := decide_eq_true c9
          clear c9
          by_cases c10 : (ji8) < (l0.length : Int)
          ·rw [if_pos c10] at H
           have c10b0 := decide_eq_true c10
           clear c10
           by_cases c11 : (rd l0 x7_1) ≤ (rd l0 (ji8))
           ·rw [if_pos c11] at H
            have c11b0 := decide_eq_true c11
            clear c11
            obtain rfl := Option.some.inj H
            have p201 : 0 ≤ (x7_1 : Int) := of_decide_eq_true ka
            have q201 : x7_1 < (l0.length : Int) := of_decide_eq_true ka
            obtain ⟨ad201, e201, hx201_0⟩ := Kd.at_int HR0.out x7_1 p201 q201
            cases e201
            replace p201 := eq_true p201
            replace q201 := eq_true q201
            have p202 : 0 ≤ ((ji8) : Int) := of_decide_eq_true ka
            have q202 : (ji8) < (l0.length : Int) := of_decide_eq_true ka
            obtain ⟨ad202, e202, hx202_0⟩ := Kd.at_int HR0.out (ji8) p202 q202
            obtain rfl : ad201 = ad202 := (by injection e202)
            replace p202 := eq_true p202
            replace q202 := eq_true q202
            go_wp2
            go_ret
            exact ⟨by first | rfl | (simp; done) | (simp only [← hji8] <;> (first | rfl | simp)) | (simp [*]; done), by repeat (first | exact Drawn0.refl _ | apply Drawn0.step)⟩
           ·rw [if_neg c11] at H
            have c11b0 := decide_eq_false c11
            clear c11
            have H' := aS_ H
            clear H
            have p201 : 0 ≤ (x7_1 : Int) := of_decide_eq_true ka
            have q201 : x7_1 < (l0.length : Int) := of_decide_eq_true ka
            obtain ⟨ad201, e201, hx201_0⟩ := Kd.at_int HR0.out x7_1 p201 q201
            cases e201
            replace p201 := eq_true p201
            replace q201 := eq_true q201
            have p202 : 0 ≤ ((ji8) : Int) := of_decide_eq_true ka
            have q202 : (ji8) < (l0.length : Int) := of_decide_eq_true ka
            obtain ⟨ad202, e202, hx202_0⟩ := Kd.at_int HR0.out (ji8) p202 q202
            obtain rfl : ad201 = ad202 := (by injection e202)
            replace p202 := eq_true p202
            replace q202 := eq_true q202
            go_wp2
            go_roundg k1
            case measure => have := HK1.out; omega
            case rel => exact ⟨(wrap64 (x7_1 + 1)), kr, H', ⟨by have := HK1.out; omega⟩, by repeat (first | exact Drawn0.refl _ | apply Drawn0.step)⟩
          ·rw [if_neg c10] at H
           exact absurd H (by simp)
         ·rw [if_neg c9] at H
          exact absurd H (by simp)
        ·rw [if_neg c7] at H
         have c7b0 := decide_eq_false c7
         clear c7
         have H' := aS_ H
         clear H
         have p201 : 0 ≤ (x7_1 : Int) := of_decide_eq_true ka
         have q201 : x7_1 < (l0.length : Int) := of_decide_eq_true ka
         obtain ⟨ad201, e201, hx201_0⟩ := Kd.at_int HR0.out x7_1 p201 q201
         cases e201
         replace p201 := eq_true p201
         replace q201 := eq_true q201
         go_wp2
         go_roundg k1
         case measure => have := HK1.out; omega
         case rel => exact ⟨(wrap64 (x7_1 + 1)), kr, H', ⟨by have := HK1.out; omega⟩, by repeat (first | exact Drawn0.refl _ | apply Drawn0.step)⟩
     ·rw [if_neg c4] at H
      exact absurd H (by simp)
    ·rw [if_neg c3] at H
     exact absurd H (by simp)
   ·rw [if_neg c2] at H
    have c2b0 := decide_eq_false c2
    clear c2
    obtain rfl := Option.some.inj H
    go_wp2
    go_ret
    exact ⟨by first | rfl | (simp; done) | (simp [*]; done), by repeat (first | exact Drawn0.refl _ | apply Drawn0.step)⟩

/-! by hand: a tenth of the print -/
def thicketref07_node.f (k : Nat) (a0_0 : Int) (a0_1 : Int) (a0_2 : Int) (a0_3 : Nat) (l0_4 : List Int) (a0_5 : Int) (a0_6 : Int) (a0_7 : Int) (a1 : Int) : Option (Bool) := if a0_0 = 1 then (if a0_2 = 0 then (if (f64bits a0_3) = 0 then (if (l0_4.length : Int) = 0 then (if a0_5 = 0 then (if a0_6 = 0 then (some (a0_7 == 0)) else (some false)) else (some false)) else (some false)) else (some false)) else (some false)) else (if a0_0 = 2 then ((thicketref07_nan.f a0_3).bind fun t342 => (if t342 = true then (some false) else (if (l0_4.length : Int) > 0 then (some false) else (if a0_1 = 0 then (if a0_2 ≥ 0 then (if a0_2 < 65536 then (if a0_5 = 1 then (if a0_6 ≥ 1 then (if a0_6 < a1 then (if a0_7 ≥ 1 then (some (decide (a0_7 < a1))) else (some false)) else (some false)) else (some false)) else (if a0_5 = 2 then (if a0_6 ≥ 1 then (if a0_6 < a1 then (if a0_7 ≥ 1 then (some (decide (a0_7 < a1))) else (some false)) else (some false)) else (some false)) else (some false))) else (some false)) else (some false)) else (some false))))) else (if a0_0 = 3 then (if (f64bits a0_3) = 0 then ((thicketref07_Cats.f k l0_4).bind fun t343 => (if t343 = true then (if a0_1 = 0 then (if a0_2 ≥ 0 then (if a0_2 < 65536 then (if a0_5 = 1 then (if a0_6 ≥ 1 then (if a0_6 < a1 then (if a0_7 ≥ 1 then (some (decide (a0_7 < a1))) else (some false)) else (some false)) else (some false)) else (if a0_5 = 2 then (if a0_6 ≥ 1 then (if a0_6 < a1 then (if a0_7 ≥ 1 then (some (decide (a0_7 < a1))) else (some false)) else (some false)) else (some false)) else (some false))) else (some false)) else (some false)) else (some false)) else (some false))) else (some false)) else (some false)))
theorem thicketref07_node.mono : ∀ a0 a1 a2 a3 a4 a5 a6 a7 a8 k, LeO (thicketref07_node.f k a0 a1 a2 a3 a4 a5 a6 a7 a8) (thicketref07_node.f (k + 1) a0 a1 a2 a3 a4 a5 a6 a7 a8) := by
 intro a0 a1 a2 a3 a4 a5 a6 a7 a8 k
 unfold thicketref07_node.f
 repeat' first
  | (with_reducible exact thicketref07_Cats.mono _ _)
  | (with_reducible exact LeO.refl _)
  | (with_reducible exact LeO.none _)
  | (with_reducible refine LeO.ite ?_ ?_)
  | (with_reducible refine LeO.bind ?_ (fun _ => ?_))
section
variable (k : Nat) (a0 a1 a2 : Int) (a3 : Nat) (A4 : Option Addr) (c4 : Nat) (l4 : List Int) (a5 a6 a7 m : Int) (r : Bool) (w : World)
set_option maxHeartbeats 8000000 in
set_option maxRecDepth 100000 in
theorem thicketref07_node.leaf (hl : Aside0 (Kd.C (Kd.int .i64) w A4 l4.length l4)) (hc : Aside0 (l4.length ≤ c4)) (hk : (a0 == 1) = true) (h : Aside0 (thicketref07_node.f k a0 a1 a2 a3 l4 a5 a6 a7 m = some r)) :
  Calls Try.prog 82 #[.agg #[.int .u8 a0, .int .i64 a1, .int .i64 a2, .float .f64 a3, .slice A4 l4.length c4, .int .u8 a5, .int .i64 a6, .int .i64 a7], .int .i64 m] w fun e w' => e = .returned (.bool r) ∧ Below w.heap.size w w' := by
 have HB := aS_ (Below.refl w.heap.size w)
 go_enter Try.func82, Try.ntmps82
 go_wp2_with (first | ((with_reducible refine gate_dst (N := 2) rfl ?_); refine box_event ?hg (N := 2) ?hd (cs := #[.int .u8 a0, .int .i64 a1, .int .i64 a2, .float .f64 a3, .slice A4 l4.length c4, .int .u8 a5, .int .i64 a6, .int .i64 a7]) (t := 71) ?hr ?_; (case hd => rfl); (case hg => rfl); (case hr => first | (go_simp; done) | (go_simp; rfl)); intro gb hg w1 hbox hb; have n0_ := aS_ (below_step (kB0 HB) hb); have BK := aS_ hbox; clear HB; have HB := n0_; clear n0_ hb hbox hg; have hz := blk8 (w := w1) BK.out))
 all_goals (go_ret; refine ⟨?_, kB0 HB⟩; have h_ := h.out; unfold thicketref07_node.f at h_; first | (simp_all; done) | (simp_all; (repeat' split at h_) <;> first | (exfalso; omega) | (simp_all; done)))
set_option maxHeartbeats 8000000 in
set_option maxRecDepth 100000 in
theorem thicketref07_node.num (hl : Aside0 (Kd.C (Kd.int .i64) w A4 l4.length l4)) (hc : Aside0 (l4.length ≤ c4)) (hk : (a0 == 1) = false) (hk2 : (a0 == 2) = true) (h : Aside0 (thicketref07_node.f k a0 a1 a2 a3 l4 a5 a6 a7 m = some r)) :
  Calls Try.prog 82 #[.agg #[.int .u8 a0, .int .i64 a1, .int .i64 a2, .float .f64 a3, .slice A4 l4.length c4, .int .u8 a5, .int .i64 a6, .int .i64 a7], .int .i64 m] w fun e w' => e = .returned (.bool r) ∧ Below w.heap.size w w' := by
 have HB := aS_ (Below.refl w.heap.size w)
 obtain ⟨t0, ht0⟩ : ∃ t_ : Bool, (a1 == 0) = t_ := ⟨_, rfl⟩
 obtain ⟨t1, ht1⟩ : ∃ t_ : Bool, decide (a2 ≥ 0) = t_ := ⟨_, rfl⟩
 have hu1 : decide (0 ≤ a2) = t1 := ht1
 obtain ⟨t2, ht2⟩ : ∃ t_ : Bool, decide (a2 < 65536) = t_ := ⟨_, rfl⟩
 obtain ⟨t3, ht3⟩ : ∃ t_ : Bool, (a5 == 1) = t_ := ⟨_, rfl⟩
 obtain ⟨t4, ht4⟩ : ∃ t_ : Bool, (a5 == 2) = t_ := ⟨_, rfl⟩
 obtain ⟨t5, ht5⟩ : ∃ t_ : Bool, decide (a6 ≥ 1) = t_ := ⟨_, rfl⟩
 have hu5 : decide (1 ≤ a6) = t5 := ht5
 obtain ⟨t6, ht6⟩ : ∃ t_ : Bool, decide (a6 < m) = t_ := ⟨_, rfl⟩
 obtain ⟨t7, ht7⟩ : ∃ t_ : Bool, decide (a7 ≥ 1) = t_ := ⟨_, rfl⟩
 have hu7 : decide (1 ≤ a7) = t7 := ht7
 obtain ⟨rn, hn⟩ : ∃ rn, thicketref07_nan.f a3 = some rn := ⟨_, rfl⟩
 have HN := aS_ hn
 clear hn
 cases rn
 all_goals go_enter Try.func82, Try.ntmps82
 all_goals go_wp2_with (first | ((with_reducible refine gate_dst (N := 2) rfl ?_); refine box_event ?hg (N := 2) ?hd (cs := #[.int .u8 a0, .int .i64 a1, .int .i64 a2, .float .f64 a3, .slice A4 l4.length c4, .int .u8 a5, .int .i64 a6, .int .i64 a7]) (t := 71) ?hr ?_; (case hd => rfl); (case hg => rfl); (case hr => first | (go_simp; done) | (go_simp; rfl)); intro gb hg w1 hbox hb; have n0_ := aS_ (below_step (kB0 HB) hb); have BK := aS_ hbox; clear HB; have HB := n0_; clear n0_ hb hbox hg; have hz := blk8 (w := w1) BK.out) | (go_at_call 83; (with_reducible refine (thicketref07_nan.calls a3 _ _ HN.out).mono ?_); rintro e w2 ⟨rfl, mq, rfl⟩; have hy := blk8 (w := w1.drewN mq) (kb BK)))
 all_goals (go_ret; refine ⟨?_, kB0 HB⟩; have h_ := h.out; have hn_ := HN.out; unfold thicketref07_node.f at h_; first | (simp_all; done) | (simp_all; (repeat' split at h_) <;> first | (exfalso; omega) | (simp_all; done)))
set_option maxHeartbeats 8000000 in
set_option maxRecDepth 100000 in
theorem thicketref07_node.cat (hl : Aside0 (Kd.C (Kd.int .i64) w A4 l4.length l4)) (hc : Aside0 (l4.length ≤ c4)) (hk : (a0 == 1) = false) (hk2 : (a0 == 2) = false) (hk3 : (a0 == 3) = true) (rc : Bool) (HK : Aside0 (thicketref07_Cats.f k l4 = some rc)) (h : Aside0 (thicketref07_node.f k a0 a1 a2 a3 l4 a5 a6 a7 m = some r)) :
  Calls Try.prog 82 #[.agg #[.int .u8 a0, .int .i64 a1, .int .i64 a2, .float .f64 a3, .slice A4 l4.length c4, .int .u8 a5, .int .i64 a6, .int .i64 a7], .int .i64 m] w fun e w' => e = .returned (.bool r) ∧ Below w.heap.size w w' := by
 have HB := aS_ (Below.refl w.heap.size w)
 obtain ⟨t0, ht0⟩ : ∃ t_ : Bool, (a1 == 0) = t_ := ⟨_, rfl⟩
 obtain ⟨t1, ht1⟩ : ∃ t_ : Bool, decide (a2 ≥ 0) = t_ := ⟨_, rfl⟩
 have hu1 : decide (0 ≤ a2) = t1 := ht1
 obtain ⟨t2, ht2⟩ : ∃ t_ : Bool, decide (a2 < 65536) = t_ := ⟨_, rfl⟩
 obtain ⟨t3, ht3⟩ : ∃ t_ : Bool, (a5 == 1) = t_ := ⟨_, rfl⟩
 obtain ⟨t4, ht4⟩ : ∃ t_ : Bool, (a5 == 2) = t_ := ⟨_, rfl⟩
 obtain ⟨t5, ht5⟩ : ∃ t_ : Bool, decide (a6 ≥ 1) = t_ := ⟨_, rfl⟩
 have hu5 : decide (1 ≤ a6) = t5 := ht5
 obtain ⟨t6, ht6⟩ : ∃ t_ : Bool, decide (a6 < m) = t_ := ⟨_, rfl⟩
 obtain ⟨t7, ht7⟩ : ∃ t_ : Bool, decide (a7 ≥ 1) = t_ := ⟨_, rfl⟩
 have hu7 : decide (1 ≤ a7) = t7 := ht7
 cases rc
 all_goals go_enter Try.func82, Try.ntmps82
 all_goals go_wp2_with (first | ((with_reducible refine gate_dst (N := 2) rfl ?_); refine box_event ?hg (N := 2) ?hd (cs := #[.int .u8 a0, .int .i64 a1, .int .i64 a2, .float .f64 a3, .slice A4 l4.length c4, .int .u8 a5, .int .i64 a6, .int .i64 a7]) (t := 71) ?hr ?_; (case hd => rfl); (case hg => rfl); (case hr => first | (go_simp; done) | (go_simp; rfl)); intro gb hg w1 hbox hb; have n0_ := aS_ (below_step (kB0 HB) hb); have BK := aS_ hbox; clear HB; have HB := n0_; clear n0_ hb hbox hg; have hz := blk8 (w := w1) BK.out) | (go_at_call 84; (with_reducible refine (thicketref07_Cats.calls k A4 c4 l4 _ _ ?s1 ?s2 HK.out).mono ?_); (case s1 => exact Kd.C_below hl.out (kB0 HB)); (case s2 => exact hc.out); rintro e w2 ⟨rfl, mq, rfl⟩; have hy := blk8 (w := w1.drewN mq) (kb BK)))
 all_goals (go_ret; refine ⟨?_, kB0 HB⟩; have h_ := h.out; have hn_ := HK.out; unfold thicketref07_node.f at h_; first | (simp_all; done) | (simp_all; (repeat' split at h_) <;> first | (exfalso; omega) | (simp_all; done)))
set_option maxHeartbeats 8000000 in
set_option maxRecDepth 100000 in
theorem thicketref07_node.none (hl : Aside0 (Kd.C (Kd.int .i64) w A4 l4.length l4)) (hc : Aside0 (l4.length ≤ c4)) (hk : (a0 == 1) = false) (hk2 : (a0 == 2) = false) (hk3 : (a0 == 3) = false) (h : Aside0 (thicketref07_node.f k a0 a1 a2 a3 l4 a5 a6 a7 m = some r)) :
  Calls Try.prog 82 #[.agg #[.int .u8 a0, .int .i64 a1, .int .i64 a2, .float .f64 a3, .slice A4 l4.length c4, .int .u8 a5, .int .i64 a6, .int .i64 a7], .int .i64 m] w fun e w' => e = .returned (.bool r) ∧ Below w.heap.size w w' := by
 have HB := aS_ (Below.refl w.heap.size w)
 go_enter Try.func82, Try.ntmps82
 go_wp2_with (first | ((with_reducible refine gate_dst (N := 2) rfl ?_); refine box_event ?hg (N := 2) ?hd (cs := #[.int .u8 a0, .int .i64 a1, .int .i64 a2, .float .f64 a3, .slice A4 l4.length c4, .int .u8 a5, .int .i64 a6, .int .i64 a7]) (t := 71) ?hr ?_; (case hd => rfl); (case hg => rfl); (case hr => first | (go_simp; done) | (go_simp; rfl)); intro gb hg w1 hbox hb; have n0_ := aS_ (below_step (kB0 HB) hb); have BK := aS_ hbox; clear HB; have HB := n0_; clear n0_ hb hbox hg; have hz := blk8 (w := w1) BK.out))
 all_goals (go_ret; refine ⟨?_, kB0 HB⟩; have h_ := h.out; unfold thicketref07_node.f at h_; first | (simp_all; done) | (simp_all; (repeat' split at h_) <;> first | (exfalso; omega) | (simp_all; done)))
set_option maxHeartbeats 8000000 in
set_option maxRecDepth 100000 in
theorem thicketref07_node.catx (hl : Aside0 (Kd.C (Kd.int .i64) w A4 l4.length l4)) (hc : Aside0 (l4.length ≤ c4)) (hk : (a0 == 1) = false) (hk2 : (a0 == 2) = false) (hk3 : (a0 == 3) = true) (hz0 : (f64bits a3 == 0) = false) (hz1 : (f64bits a3 != 0) = true) (h : Aside0 (thicketref07_node.f k a0 a1 a2 a3 l4 a5 a6 a7 m = some r)) :
  Calls Try.prog 82 #[.agg #[.int .u8 a0, .int .i64 a1, .int .i64 a2, .float .f64 a3, .slice A4 l4.length c4, .int .u8 a5, .int .i64 a6, .int .i64 a7], .int .i64 m] w fun e w' => e = .returned (.bool r) ∧ Below w.heap.size w w' := by
 have HB := aS_ (Below.refl w.heap.size w)
 go_enter Try.func82, Try.ntmps82
 go_wp2_with (first | ((with_reducible refine gate_dst (N := 2) rfl ?_); refine box_event ?hg (N := 2) ?hd (cs := #[.int .u8 a0, .int .i64 a1, .int .i64 a2, .float .f64 a3, .slice A4 l4.length c4, .int .u8 a5, .int .i64 a6, .int .i64 a7]) (t := 71) ?hr ?_; (case hd => rfl); (case hg => rfl); (case hr => first | (go_simp; done) | (go_simp; rfl)); intro gb hg w1 hbox hb; have n0_ := aS_ (below_step (kB0 HB) hb); have BK := aS_ hbox; clear HB; have HB := n0_; clear n0_ hb hbox hg; have hz := blk8 (w := w1) BK.out))
 all_goals (go_ret; refine ⟨?_, kB0 HB⟩; have h_ := h.out; unfold thicketref07_node.f at h_; first | (simp_all; done) | (simp_all; (repeat' split at h_) <;> first | (exfalso; omega) | (simp_all; done)))
theorem thicketref07_node.calls (hr0_4 : Kd.C (Kd.int .i64) w A4 l4.length l4) (hc0_4 : l4.length ≤ c4) (h : thicketref07_node.f k a0 a1 a2 a3 l4 a5 a6 a7 m = some r) :
  Calls Try.prog 82 #[.agg #[.int .u8 a0, .int .i64 a1, .int .i64 a2, .float .f64 a3, .slice A4 l4.length c4, .int .u8 a5, .int .i64 a6, .int .i64 a7], .int .i64 m] w fun e w' => e = .returned (.bool r) ∧ Below w.heap.size w w' := by
 by_cases h1 : a0 = 1
 ·exact thicketref07_node.leaf k a0 a1 a2 a3 A4 c4 l4 a5 a6 a7 m r w ⟨hr0_4⟩ ⟨hc0_4⟩ (beq_iff_eq.2 h1) ⟨h⟩
 ·by_cases h2 : a0 = 2
  ·exact thicketref07_node.num k a0 a1 a2 a3 A4 c4 l4 a5 a6 a7 m r w ⟨hr0_4⟩ ⟨hc0_4⟩ (beq_eq_false_iff_ne.2 h1) (beq_iff_eq.2 h2) ⟨h⟩
  ·by_cases h3 : a0 = 3
   ·by_cases hz : f64bits a3 = 0
    ·cases hcat : thicketref07_Cats.f k l4 with
     | none =>
      unfold thicketref07_node.f at h
      rw [if_neg h1, if_neg h2, if_pos h3, if_pos hz, hcat] at h
      cases h
     | some rc => exact thicketref07_node.cat k a0 a1 a2 a3 A4 c4 l4 a5 a6 a7 m r w ⟨hr0_4⟩ ⟨hc0_4⟩ (beq_eq_false_iff_ne.2 h1) (beq_eq_false_iff_ne.2 h2) (beq_iff_eq.2 h3) rc ⟨hcat⟩ ⟨h⟩
    ·exact thicketref07_node.catx k a0 a1 a2 a3 A4 c4 l4 a5 a6 a7 m r w ⟨hr0_4⟩ ⟨hc0_4⟩ (beq_eq_false_iff_ne.2 h1) (beq_eq_false_iff_ne.2 h2) (beq_iff_eq.2 h3) (beq_eq_false_iff_ne.2 hz) (bne_iff_ne.2 hz) ⟨h⟩
   ·exact thicketref07_node.none k a0 a1 a2 a3 A4 c4 l4 a5 a6 a7 m r w ⟨hr0_4⟩ ⟨hc0_4⟩ (beq_eq_false_iff_ne.2 h1) (beq_eq_false_iff_ne.2 h2) (beq_eq_false_iff_ne.2 h3) ⟨h⟩
end

end Go.Proofs.Ytfmjgjfbnilpoaa.FAll
