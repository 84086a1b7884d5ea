-- written by fprint.sh, a program of ours over the kit's print: not by hand
import Derived.Test.YtfmjgjfbnilpoaaZq
import Derived.Test.YtfmjgjfbnilpoaaEi
import Derived.Test.YtfmjgjfbnilpoaaFAllx0
import Derived.Test.YtfmjgjfbnilpoaaFAllx3
namespace Go.Proofs.Ytfmjgjfbnilpoaa.FAll
open Go.RowKit YtfmjgjfbnilpoaaW.PrintWords YtfmjgjfbnilpoaaW.PrintLast YtfmjgjfbnilpoaaW.PrintMore
attribute [local go_sem] feq_walk fne_walk flt_walk fle_walk fgt_walk fge_walk fint_walk fstore_walk run_f64bits run_f64from max2_int min2_int max_two min_two max_three min_three max_four min_four   -- for this text's walks alone
set_option linter.unusedVariables false
set_option linter.unusedSimpArgs false
/-! ### thicketref07_Shape: function 79 -/
mutual
def thicketref07_Shape.l0 : Nat → Int → List Int → List (S71) → Int → Int → Int → List (S71) → Option (Int × Int)
 | 0, _, _, _, _, _, _, _ => none
 | k + 1, x4, x5, x21, x22, x23, x204000, x204001 => if x23 < x22 then (if 0 ≤ x23 then (if x23 < (x21.length : Int) then ((thicketref07_node.f k ((rd_T71 x21 x23).f0) ((rd_T71 x21 x23).f1) ((rd_T71 x21 x23).f2) ((rd_T71 x21 x23).f3) ((rd_T71 x21 x23).f4) ((rd_T71 x21 x23).f5) ((rd_T71 x21 x23).f6) ((rd_T71 x21 x23).f7) x4).bind fun t209 => (if t209 = true then (if ((rd_T71 x21 x23).f0) = 1 then (thicketref07_Shape.l0 k x4 x5 x21 x22 (wrap64 (x23 + 1)) x204000 x204001) else (if 0 ≤ ((rd_T71 x21 x23).f6) then (if ((rd_T71 x21 x23).f6) < (x5.length : Int) then ((some (x5.set (((rd_T71 x21 x23).f6) : Int).toNat (wrap64 ((rd x5 ((rd_T71 x21 x23).f6)) + 1)) : List Int)).bind fun y211 => (if 0 ≤ ((rd_T71 x21 x23).f7) then (if ((rd_T71 x21 x23).f7) < (x5.length : Int) then (thicketref07_Shape.l0 k x4 (y211.set (((rd_T71 x21 x23).f7) : Int).toNat (wrap64 ((rd y211 ((rd_T71 x21 x23).f7)) + 1))) x21 x22 (wrap64 (x23 + 1)) x204000 x204001) else (none)) else (none))) else (none)) else (none))) else (some (71, x23)))) else (none)) else (none)) else (if 0 ≤ x4 then (if (x4 : Int).toNat ≤ 281474976710656 then (thicketref07_Shape.l1 k x5 (List.replicate (x4 : Int).toNat false) (([0] : List Int)) x204000 x204001) else (none)) else (none))
def thicketref07_Shape.l1 : Nat → List Int → List Bool → List Int → Int → List (S71) → Option (Int × Int)
 | 0, _, _, _, _, _ => none
 | k + 1, x5, x8, x9, x204000, x204001 => if (x9.length : Int) > 0 then (if 0 ≤ (wrap64 ((x9.length : Int) - 1)) then (if (wrap64 ((x9.length : Int) - 1)) < (x9.length : Int) then (if (wrap64 ((x9.length : Int) - 1)) ≤ (x9.length : Int) then ((some (x9.take ((wrap64 ((x9.length : Int) - 1)) : Int).toNat : List Int)).bind fun y221 => (if 0 ≤ (rd x9 (wrap64 ((x9.length : Int) - 1))) then (if (rd x9 (wrap64 ((x9.length : Int) - 1))) < (x8.length : Int) then (if rdOf false x8 (rd x9 (wrap64 ((x9.length : Int) - 1))) = true then (thicketref07_Shape.l1 k x5 x8 y221 x204000 x204001) else ((some (x8.set ((rd x9 (wrap64 ((x9.length : Int) - 1))) : Int).toNat true : List Bool)).bind fun y225 => (if (rd x9 (wrap64 ((x9.length : Int) - 1))) < (x204001.length : Int) then (if ((rd_T71 x204001 (rd x9 (wrap64 ((x9.length : Int) - 1)))).f0) = 1 then (thicketref07_Shape.l1 k x5 y225 y221 x204000 x204001) else ((some (([(rd_T71 x204001 (rd x9 (wrap64 ((x9.length : Int) - 1)))).f6, (rd_T71 x204001 (rd x9 (wrap64 ((x9.length : Int) - 1)))).f7] : List Int) : List Int)).bind fun y228 => (if y221.length + y228.length < 17592186044416 then (thicketref07_Shape.l1 k x5 y225 (y221 ++ y228) x204000 x204001) else (none)))) else (none)))) else (none)) else (none))) else (none)) else (none)) else (none)) else (thicketref07_Shape.l2 k x5 x8 (x204001.length : Int) 0)
def thicketref07_Shape.l2 : Nat → List Int → List Bool → Int → Int → Option (Int × Int)
 | 0, _, _, _, _ => none
 | k + 1, x5, x8, x92, x93 => if x93 < x92 then (if x93 = 0 then (if 0 ≤ x93 then (if x93 < (x5.length : Int) then (if (rd x5 x93) = 0 then (if x93 > 0 then (if (rd x5 x93) = 1 then (if x93 < (x8.length : Int) then (if rdOf false x8 x93 = true then (thicketref07_Shape.l2 k x5 x8 x92 (wrap64 (x93 + 1))) else (some (70, x93))) else (none)) else (some (70, x93))) else (if x93 < (x8.length : Int) then (if rdOf false x8 x93 = true then (thicketref07_Shape.l2 k x5 x8 x92 (wrap64 (x93 + 1))) else (some (70, x93))) else (none))) else (some (70, x93))) else (none)) else (none)) else (if x93 > 0 then (if 0 ≤ x93 then (if x93 < (x5.length : Int) then (if (rd x5 x93) = 1 then (if x93 < (x8.length : Int) then (if rdOf false x8 x93 = true then (thicketref07_Shape.l2 k x5 x8 x92 (wrap64 (x93 + 1))) else (some (70, x93))) else (none)) else (some (70, x93))) else (none)) else (none)) else (if 0 ≤ x93 then (if x93 < (x8.length : Int) then (if rdOf false x8 x93 = true then (thicketref07_Shape.l2 k x5 x8 x92 (wrap64 (x93 + 1))) else (some (70, x93))) else (none)) else (none)))) else (some (0, 0))
end
def thicketref07_Shape.f (k : Nat) (a0_0 : Int) (l0_1 : List (S71)) : Option (Int × Int) := if (l0_1.length : Int) = 0 then (some (70, 0)) else (if 0 ≤ (l0_1.length : Int) then (if ((l0_1.length : Int) : Int).toNat ≤ 35184372088832 then (thicketref07_Shape.l0 k (l0_1.length : Int) (List.replicate ((l0_1.length : Int) : Int).toNat 0) l0_1 (l0_1.length : Int) 0 a0_0 l0_1) else (none)) else (none))
theorem thicketref07_Shape.mono_l : ∀ k, (∀ y0 y1 y2 y3 y4 y5 y6, LeO (thicketref07_Shape.l0 k y0 y1 y2 y3 y4 y5 y6) (thicketref07_Shape.l0 (k + 1) y0 y1 y2 y3 y4 y5 y6)) ∧ (∀ y0 y1 y2 y3 y4, LeO (thicketref07_Shape.l1 k y0 y1 y2 y3 y4) (thicketref07_Shape.l1 (k + 1) y0 y1 y2 y3 y4)) ∧ (∀ y0 y1 y2 y3, LeO (thicketref07_Shape.l2 k y0 y1 y2 y3) (thicketref07_Shape.l2 (k + 1) y0 y1 y2 y3))
 | 0 => ⟨fun _ _ _ _ _ _ _ r h => by simp [thicketref07_Shape.l0] at h, fun _ _ _ _ _ r h => by simp [thicketref07_Shape.l1] at h, fun _ _ _ _ r h => by simp [thicketref07_Shape.l2] at h⟩
 | k + 1 => by
  obtain ⟨ih0, ih1, ih2⟩ := thicketref07_Shape.mono_l k
  refine ⟨?_, ?_, ?_⟩
  ·intro y0 y1 y2 y3 y4 y5 y6
   unfold thicketref07_Shape.l0
   repeat' first
   | (with_reducible exact ih0 _ _ _ _ _ _ _)
   | (with_reducible exact ih1 _ _ _ _ _)
   | (with_reducible exact ih2 _ _ _ _)
   | (with_reducible exact thicketref07_node.mono _ _ _ _ _ _ _ _ _ _)
   | (with_reducible exact LeO.refl _)
   | (with_reducible exact LeO.none _)
   | (with_reducible refine LeO.ite ?_ ?_)
   | (with_reducible refine LeO.bind ?_ (fun _ => ?_))
  ·intro y0 y1 y2 y3 y4
   unfold thicketref07_Shape.l1
   repeat' first
   | (with_reducible exact ih0 _ _ _ _ _ _ _)
   | (with_reducible exact ih1 _ _ _ _ _)
   | (with_reducible exact ih2 _ _ _ _)
   | (with_reducible exact thicketref07_node.mono _ _ _ _ _ _ _ _ _ _)
   | (with_reducible exact LeO.refl _)
   | (with_reducible exact LeO.none _)
   | (with_reducible refine LeO.ite ?_ ?_)
   | (with_reducible refine LeO.bind ?_ (fun _ => ?_))
  ·intro y0 y1 y2 y3
   unfold thicketref07_Shape.l2
   repeat' first
   | (with_reducible exact ih0 _ _ _ _ _ _ _)
   | (with_reducible exact ih1 _ _ _ _ _)
   | (with_reducible exact ih2 _ _ _ _)
   | (with_reducible exact thicketref07_node.mono _ _ _ _ _ _ _ _ _ _)
   | (with_reducible exact LeO.refl _)
   | (with_reducible exact LeO.none _)
   | (with_reducible refine LeO.ite ?_ ?_)
   | (with_reducible refine LeO.bind ?_ (fun _ => ?_))
theorem thicketref07_Shape.mono : ∀ a0 a1 k, LeO (thicketref07_Shape.f k a0 a1) (thicketref07_Shape.f (k + 1) a0 a1) := by
 intro a0 a1 k
 obtain ⟨ih0, ih1, ih2⟩ := thicketref07_Shape.mono_l k
 unfold thicketref07_Shape.f
 repeat' first
   | (with_reducible exact ih0 _ _ _ _ _ _ _)
   | (with_reducible exact ih1 _ _ _ _ _)
   | (with_reducible exact ih2 _ _ _ _)
   | (with_reducible exact thicketref07_node.mono _ _ _ _ _ _ _ _ _ _)
   | (with_reducible exact LeO.refl _)
   | (with_reducible exact LeO.none _)
   | (with_reducible refine LeO.ite ?_ ?_)
   | (with_reducible refine LeO.bind ?_ (fun _ => ?_))
set_option maxHeartbeats 8000000 in
set_option maxRecDepth 100000 in
theorem thicketref07_Shape.calls (k : Nat) (a0_0 : Int) (A0_1 : Option Addr) (c0_1 : Nat) (l0_1 : List (S71)) (r1 : Int) (r2 : Int) (w : World) (hr0_1 : Kd.C k71 w A0_1 l0_1.length l0_1) (hc0_1 : l0_1.length ≤ c0_1) (h : thicketref07_Shape.f k a0_0 l0_1 = some (r1, r2)) :
  Calls Try.prog 79 #[.agg #[.int .i64 a0_0, .slice A0_1 l0_1.length c0_1]] w fun e w' => e = .returned (.tuple #[.int .i64 r1, .int .i64 r2]) ∧ Below w.heap.size w w' := by
 have hu53 := Try.underlying53
 have hu71 := Try.underlying71
 have HR0_1 := aS_ hr0_1
 have HC0_1 := aS_ hc0_1
 clear hr0_1 hc0_1
 have HB := aS_ (Below.refl w.heap.size w)
 have H : (if (l0_1.length : Int) = 0 then (some (70, 0)) else (if 0 ≤ (l0_1.length : Int) then (if ((l0_1.length : Int) : Int).toNat ≤ 35184372088832 then (thicketref07_Shape.l0 k (l0_1.length : Int) (List.replicate ((l0_1.length : Int) : Int).toNat 0) l0_1 (l0_1.length : Int) 0 a0_0 l0_1) else (none)) else (none))) = some (r1, r2) := h
 clear h
 by_cases c2 : (l0_1.length : Int) = 0
 ·rw [if_pos c2] at H
  have c2b0 := beq_iff_eq.mpr c2
  have c2b1 := bne_eq_false_iff_eq.mpr c2
  clear c2
  simp only [Option.some.injEq, Prod.mk.injEq] at H
  obtain ⟨rfl, rfl⟩ := H
  go_enter Try.func79, Try.ntmps79
  go_wp2_with (first | ((with_reducible refine gate_dst (N := 1) rfl ?_); refine box_event ?hg (N := 1) ?hd (cs := #[.int .i64 a0_0, .slice A0_1 l0_1.length c0_1]) (t := 53) ?hr ?_; (case hd => rfl); (case hg => rfl); (case hr => first | (go_simp; done) | (go_simp; rfl)); intro gb203 hg w3 hbox hb; have n0_ := aS_ (below_step (kB0 HB) hb); have n1_ := aS_ (hbox); have n2_ := aS_ ((kg hg (kB0 HB) : w.heap.size ≤ gb203)); have n3_ := aS_ ((kg hg (kB0 HB) : w.heap.size ≤ gb203)); clear HB; have HB := n0_; have BK203 := n1_; have GW203 := n2_; have GE203 := n3_; clear n0_ n1_ n2_ n3_; clear hb hbox hg; have hcz4 := blk2 (w := w3) BK203.out))
  go_ret2
  exact ⟨by first | rfl | (simp [errW_none, errW_some] <;> rfl) | (simp [*, errW_none, errW_some] <;> rfl), kB1 HB GE203⟩
 ·rw [if_neg c2] at H
  have c2b0 := beq_eq_false_iff_ne.mpr c2
  have c2b1 := bne_iff_ne.mpr c2
  have c2b2 : ¬ (l0_1 = []) := fun h_ => c2 (by rw [h_]; rfl)
  by_cases c5 : 0 ≤ (l0_1.length : Int)
  ·rw [if_pos c5] at H
   have c5b0 := eq_true c5
   have c5b1 := decide_eq_true c5
   clear c5
   by_cases c6 : ((l0_1.length : Int) : Int).toNat ≤ 35184372088832
   ·rw [if_pos c6] at H
    have c6b0 := eq_true c6
    have c6b1 := decide_eq_true c6
    clear c6
    obtain ⟨y204, hy204⟩ : ∃ y_ : List Int, y_ = (List.replicate ((l0_1.length : Int) : Int).toNat 0) := ⟨_, rfl⟩
    (try replace H := bS_ H); rw [← hy204] at H; try dsimp only at H
    have Ny204 := aS_ hy204
    clear hy204
    have H' := aS_ H
    clear H
    go_enter Try.func79, Try.ntmps79
    go_wp2_with (first | ((with_reducible refine gate_dst (N := 1) rfl ?_); refine box_event ?hg (N := 1) ?hd (cs := #[.int .i64 a0_0, .slice A0_1 l0_1.length c0_1]) (t := 53) ?hr ?_; (case hd => rfl); (case hg => rfl); (case hr => first | (go_simp; done) | (go_simp; rfl)); intro gb203 hg w7 hbox hb; have n0_ := aS_ (below_step (kB0 HB) hb); have n1_ := aS_ (hbox); have n2_ := aS_ ((kg hg (kB0 HB) : w.heap.size ≤ gb203)); have n3_ := aS_ ((kg hg (kB0 HB) : w.heap.size ≤ gb203)); clear HB; have HB := n0_; have BK203 := n1_; have GW203 := n2_; have GE203 := n3_; clear n0_ n1_ n2_ n3_; clear hb hbox hg; have hcz8 := blk2 (w := w7) BK203.out) | ((with_reducible refine gate_dst (N := 19) rfl ?_); refine Kd.R_make (Kd.int .i64) _ 3 rfl (N := 19) rfl 54 _ _ rfl (l0_1.length : Int) rfl rfl Try.underlying54 (.int .i64 0) 8 info3 rfl (by decide) (by omega) 0 (ok := fun _ => True) (okp := fun _ => True) rfl (fun _ hk => hk) trivial (of_decide_eq_true ka) (Nat.le_trans (Nat.mul_le_mul_right _ (of_decide_eq_true ka : (l0_1.length : Int).toNat ≤ 35184372088832)) (by omega)) (Below.refl _ _) (Nat.le_refl _) ?_; intro v205 w9 ho10 hb hg_ hnew_; clear hg_ hnew_; (first | rw [← Ny204.out] at ho10 | (simp only [Int.reduceToNat] at ho10; rw [← Ny204.out] at ho10)); have n0_ := aS_ (Kd.R_lower ho10 (below_size (kB1 HB GE203))); have n1_ := aS_ (blk_below (g := gb203) (o := .cells #[.int .i64 a0_0, .slice A0_1 l0_1.length c0_1] 53 (0, 0)) (kb BK203) hb); have n2_ := aS_ (below_step (kB1 HB GE203) hb); clear BK203; clear HB; have HO206 := n0_; have BK203 := n1_; have HB := n2_; clear n0_ n1_ n2_; clear hb ho10; have hcz11 := blk2 (w := w9) BK203.out))
    go_loopg [23] k (fun kq v23 w' => ∃ (x5_1 : List Int) (x23_1 : Int), v23 = .int .i64 x23_1 ∧ Aside0 (thicketref07_Shape.l0 kq (l0_1.length : Int) x5_1 l0_1 (l0_1.length : Int) x23_1 a0_0 l0_1 = some (r1, r2)) ∧ Aside0 (kq ≤ k) ∧ Aside0 (Kd.R (Kd.int .i64) 3 w' w.heap.size (fun _ => True) v205 x5_1) ∧ Aside0 (w'.heap[gb203]? = some (.cells #[.int .i64 a0_0, (.slice A0_1 l0_1.length c0_1)] 53 (0, 0))) ∧ Aside0 (Below w.heap.size w w'))
    case atStart => exact ⟨(y204), (0), kr, H', ⟨Nat.le_refl _⟩, ⟨kR HO206⟩, ⟨kb BK203⟩, ⟨kB1 HB GE203⟩⟩
    case round =>
     clear H'
     try clear c2; try clear c2b0; try clear c2b1; try clear c2b2; try clear p2; try clear c5; try clear c5b0; try clear c5b1; try clear c6; try clear c6b0; try clear c6b1; try clear c7; try clear hcz11; try clear hcz4; try clear hcz8
     obtain ⟨x5_1, x23_1, rfl, HA, HK1, HO_5, BK203, HB⟩ := hrel
     cases gk with
     | zero => exact absurd HA.out (by simp [thicketref07_Shape.l0])
     | succ k1 =>
      have H := HA.out
      clear HA
      simp only [thicketref07_Shape.l0] at H
      by_cases c12 : x23_1 < (l0_1.length : Int)
      ·rw [if_pos c12] at H
       have c12b0 := decide_eq_true c12
       clear c12
       by_cases c13 : 0 ≤ x23_1
       ·rw [if_pos c13] at H
        have c13b0 := decide_eq_true c13
        clear c13
        by_cases c14 : x23_1 < (l0_1.length : Int)
        ·rw [if_pos c14] at H
         have c14b0 := decide_eq_true c14
         clear c14
         replace H := Option.bind_eq_some_iff.mp H
         obtain ⟨t209, A150, H⟩ := H
         try dsimp only at H
         have A15 := aS_ A150
         clear A150
         by_cases c16 : t209 = true
         ·subst c16
          rw [if_pos rfl] at H
          by_cases c17 : ((rd_T71 l0_1 x23_1).f0) = 1
          ·rw [if_pos c17] at H
           have c17b0 := beq_iff_eq.mpr c17
           have c17b1 := bne_eq_false_iff_eq.mpr c17
           clear c17
           have H' := aS_ H
           clear H
           have p207 : 0 ≤ (x23_1 : Int) := of_decide_eq_true ka
           have q207 : x23_1 < (l0_1.length : Int) := of_decide_eq_true ka
           obtain ⟨ad207, A207_4, c207_4, e207, hx207_0, hx207_1, hx207_2, hx207_3, hx207_4, hx207_5, hx207_6, hx207_7, hl207_4, hi207_4⟩ := at_T71 HR0_1.out x23_1 p207 q207
           cases e207
           replace hx207_0 := cB_ HB.out hx207_0
           replace hx207_1 := cB_ HB.out hx207_1
           replace hx207_2 := cB_ HB.out hx207_2
           replace hx207_3 := cB_ HB.out hx207_3
           replace hx207_4 := cB_ HB.out hx207_4
           replace hx207_5 := cB_ HB.out hx207_5
           replace hx207_6 := cB_ HB.out hx207_6
           replace hx207_7 := cB_ HB.out hx207_7
           have HR207_4 := aS_ hi207_4
           have HC207_4 := aS_ hl207_4
           clear hi207_4 hl207_4
           replace p207 := eq_true p207
           replace q207 := eq_true q207
           go_wp2_with (first | ((with_reducible refine gate_dst (N := 7) rfl ?_); refine box_event ?hg (N := 7) ?hd (cs := #[.int .u8 0, .int .i64 0, .int .i64 0, .float .f64 0, .slice none 0 0, .int .u8 0, .int .i64 0, .int .i64 0]) (t := 71) ?hr ?_; (case hd => rfl); (case hg => rfl); (case hr => first | (go_simp; done) | (go_simp; rfl)); intro gb208 hg w18 hbox hb; have n0_ := aS_ (Kd.R_below (kR HO_5) hb); have n1_ := aS_ (blk_below (g := gb203) (o := .cells #[.int .i64 a0_0, .slice (some ad207) l0_1.length c0_1] 53 (0, 0)) (kb BK203) hb); have n2_ := aS_ (below_step (kB1 HB GE203) hb); have n3_ := aS_ (hbox); have n4_ := aS_ ((kg hg (kB1 HB GE203) : w.heap.size ≤ gb208)); have n5_ := aS_ ((kg hg (kB1 HB GE203) : w.heap.size ≤ gb208)); have n6_ := aS_ ((by rw [hg]; exact Nat.ne_of_lt (blk_lt (g := gb203) (o := .cells #[.int .i64 a0_0, .slice (some ad207) l0_1.length c0_1] 53 (0, 0)) (kb BK203)) : gb203 ≠ gb208)); have n7_ := aS_ ((by rw [hg]; exact Nat.ne_of_gt (blk_lt (g := gb203) (o := .cells #[.int .i64 a0_0, .slice (some ad207) l0_1.length c0_1] 53 (0, 0)) (kb BK203)) : gb208 ≠ gb203)); clear HO_5; clear BK203; clear HB; have HO_5 := n0_; have BK203 := n1_; have HB := n2_; have BK208 := n3_; have GW208 := n4_; have GE208 := n5_; have NB203_208 := n6_; have NB208_203 := n7_; clear n0_ n1_ n2_ n3_ n4_ n5_ n6_ n7_; clear hb hbox hg; have hnb19 := NB208_203.out; have hnc19 := NB203_208.out; have hcz20 := blk8 (w := w18) BK208.out) | ((with_reducible refine gate_callee (f := 82) rfl ?_); refine goesL_ (some 30) rfl rfl Try.func82 (by kernel_rfl) rfl #[.agg #[.int .u8 ((rd_T71 l0_1 x23_1).f0), .int .i64 ((rd_T71 l0_1 x23_1).f1), .int .i64 ((rd_T71 l0_1 x23_1).f2), .float .f64 ((rd_T71 l0_1 x23_1).f3), .slice A207_4 ((rd_T71 l0_1 x23_1).f4).length c207_4, .int .u8 ((rd_T71 l0_1 x23_1).f5), .int .i64 ((rd_T71 l0_1 x23_1).f6), .int .i64 ((rd_T71 l0_1 x23_1).f7)], .int .i64 (l0_1.length : Int)] rfl (by (try simp only [List.map_toArray, List.map_cons, List.map_nil]); first | done | rfl | (simp only [List.length_drop, List.length_take]; rfl)) ?_; (with_reducible refine (thicketref07_node.calls k1 ((rd_T71 l0_1 x23_1).f0) ((rd_T71 l0_1 x23_1).f1) ((rd_T71 l0_1 x23_1).f2) ((rd_T71 l0_1 x23_1).f3) _ _ ((rd_T71 l0_1 x23_1).f4) ((rd_T71 l0_1 x23_1).f5) ((rd_T71 l0_1 x23_1).f6) ((rd_T71 l0_1 x23_1).f7) (l0_1.length : Int) true _ ?side1 ?side2 A15.out).mono ?_); (case side1 => exact Kd.C_below HR207_4.out (kB2 HB GE203 GE208)); (case side2 => exact HC207_4.out); rintro e w21 ⟨rfl, hb⟩; refine ⟨_, rfl, ?_⟩; have n0_ := aS_ (Kd.R_below (by (with_reducible repeat (first | apply Kd.R_alloc | apply Kd.R_drewN | apply Kd.R_drew)); exact (Kd.R_mono (Kd.R_far8 (Kd.R_types HO_5.out BK208.out (by decide)) (fun _ hk => hk.2) _ _ _ _ _ _ _ _) (fun _ h_ => h_.1))) hb); have n1_ := aS_ (blk_below (g := gb203) (o := .cells #[.int .i64 a0_0, .slice (some ad207) l0_1.length c0_1] 53 (0, 0)) (by (with_reducible repeat (first | refine blk_drewN ?_ _ | refine blk_drew ?_ | refine blk_alloc ?_ _)); refine blk_far8 ?_ NB203_208.out _ _ _ _ _ _ _ _; (with_reducible repeat (first | refine blk_drewN ?_ _ | refine blk_drew ?_ | refine blk_alloc ?_ _)); exact BK203.out) hb); have n2_ := aS_ (blk_below (g := gb208) (o := .cells #[.int .u8 ((rd_T71 l0_1 x23_1).f0), .int .i64 ((rd_T71 l0_1 x23_1).f1), .int .i64 ((rd_T71 l0_1 x23_1).f2), .float .f64 ((rd_T71 l0_1 x23_1).f3), .slice A207_4 ((rd_T71 l0_1 x23_1).f4).length c207_4, .int .u8 ((rd_T71 l0_1 x23_1).f5), .int .i64 ((rd_T71 l0_1 x23_1).f6), .int .i64 ((rd_T71 l0_1 x23_1).f7)] 71 (0, 0)) (by (with_reducible repeat (first | refine blk_drewN ?_ _ | refine blk_drew ?_ | refine blk_alloc ?_ _)); exact blk_put8 (kb BK208) _ _ _ _ _ _ _ _) hb); have n3_ := aS_ (below_step (kB2 HB GE203 GE208) hb); clear HO_5; clear BK203; clear BK208; clear HB; have HO_5 := n0_; have BK203 := n1_; have BK208 := n2_; have HB := n3_; clear n0_ n1_ n2_ n3_; (try clear hb); (try clear hb2); (try clear hk); (try clear hi); have hcz22 := blk8 (w := w21) BK208.out))
           go_roundg k1
           case measure => have := HK1.out; omega
           case rel => exact ⟨(x5_1), (wrap64 (x23_1 + 1)), kr, H', ⟨by have := HK1.out; omega⟩, ⟨kR HO_5⟩, ⟨kb BK203⟩, ⟨kB2 HB GE203 GE208⟩⟩
          ·rw [if_neg c17] at H
           have c17b0 := beq_eq_false_iff_ne.mpr c17
           have c17b1 := bne_iff_ne.mpr c17
           by_cases c23 : 0 ≤ ((rd_T71 l0_1 x23_1).f6)
           ·rw [if_pos c23] at H
            have c23b0 := decide_eq_true c23
            clear c23
            by_cases c24 : ((rd_T71 l0_1 x23_1).f6) < (x5_1.length : Int)
            ·rw [if_pos c24] at H
             have c24b0 := decide_eq_true c24
             clear c24
             obtain ⟨y211, hy211⟩ : ∃ y_ : List Int, y_ = (x5_1.set (((rd_T71 l0_1 x23_1).f6) : Int).toNat (wrap64 ((rd x5_1 ((rd_T71 l0_1 x23_1).f6)) + 1))) := ⟨_, rfl⟩
             (try replace H := bS_ H); rw [← hy211] at H; try dsimp only at H
             have Ny211 := aS_ hy211
             clear hy211
             by_cases c26 : 0 ≤ ((rd_T71 l0_1 x23_1).f7)
             ·rw [if_pos c26] at H
              have c26b0 := decide_eq_true c26
              clear c26
              by_cases c27 : ((rd_T71 l0_1 x23_1).f7) < (x5_1.length : Int)
              ·rw [if_pos c27] at H
               have c27b0 := decide_eq_true c27
               clear c27
               obtain ⟨y213, hy213⟩ : ∃ y_ : List Int, y_ = (y211.set (((rd_T71 l0_1 x23_1).f7) : Int).toNat (wrap64 ((rd y211 ((rd_T71 l0_1 x23_1).f7)) + 1))) := ⟨_, rfl⟩
               (try replace H := bS_ H); rw [← hy213] at H; try dsimp only at H
               have Ny213 := aS_ hy213
               clear hy213
               have H' := aS_ H
               clear H
               have p207 : 0 ≤ (x23_1 : Int) := of_decide_eq_true ka
               have q207 : x23_1 < (l0_1.length : Int) := of_decide_eq_true ka
               obtain ⟨ad207, A207_4, c207_4, e207, hx207_0, hx207_1, hx207_2, hx207_3, hx207_4, hx207_5, hx207_6, hx207_7, hl207_4, hi207_4⟩ := at_T71 HR0_1.out x23_1 p207 q207
               cases e207
               replace hx207_0 := cB_ HB.out hx207_0
               replace hx207_1 := cB_ HB.out hx207_1
               replace hx207_2 := cB_ HB.out hx207_2
               replace hx207_3 := cB_ HB.out hx207_3
               replace hx207_4 := cB_ HB.out hx207_4
               replace hx207_5 := cB_ HB.out hx207_5
               replace hx207_6 := cB_ HB.out hx207_6
               replace hx207_7 := cB_ HB.out hx207_7
               have HR207_4 := aS_ hi207_4
               have HC207_4 := aS_ hl207_4
               clear hi207_4 hl207_4
               replace p207 := eq_true p207
               replace q207 := eq_true q207
               go_wp2_with (first | ((with_reducible refine gate_dst (N := 7) rfl ?_); refine box_event ?hg (N := 7) ?hd (cs := #[.int .u8 0, .int .i64 0, .int .i64 0, .float .f64 0, .slice none 0 0, .int .u8 0, .int .i64 0, .int .i64 0]) (t := 71) ?hr ?_; (case hd => rfl); (case hg => rfl); (case hr => first | (go_simp; done) | (go_simp; rfl)); intro gb208 hg w29 hbox hb; have n0_ := aS_ (Kd.R_below (kR HO_5) hb); have n1_ := aS_ (blk_below (g := gb203) (o := .cells #[.int .i64 a0_0, .slice (some ad207) l0_1.length c0_1] 53 (0, 0)) (kb BK203) hb); have n2_ := aS_ (below_step (kB1 HB GE203) hb); have n3_ := aS_ (hbox); have n4_ := aS_ ((kg hg (kB1 HB GE203) : w.heap.size ≤ gb208)); have n5_ := aS_ ((kg hg (kB1 HB GE203) : w.heap.size ≤ gb208)); have n6_ := aS_ ((by rw [hg]; exact Nat.ne_of_lt (blk_lt (g := gb203) (o := .cells #[.int .i64 a0_0, .slice (some ad207) l0_1.length c0_1] 53 (0, 0)) (kb BK203)) : gb203 ≠ gb208)); have n7_ := aS_ ((by rw [hg]; exact Nat.ne_of_gt (blk_lt (g := gb203) (o := .cells #[.int .i64 a0_0, .slice (some ad207) l0_1.length c0_1] 53 (0, 0)) (kb BK203)) : gb208 ≠ gb203)); clear HO_5; clear BK203; clear HB; have HO_5 := n0_; have BK203 := n1_; have HB := n2_; have BK208 := n3_; have GW208 := n4_; have GE208 := n5_; have NB203_208 := n6_; have NB208_203 := n7_; clear n0_ n1_ n2_ n3_ n4_ n5_ n6_ n7_; clear hb hbox hg; have hnb30 := NB208_203.out; have hnc30 := NB203_208.out; have hcz31 := blk8 (w := w29) BK208.out) | ((with_reducible refine gate_callee (f := 82) rfl ?_); refine goesL_ (some 30) rfl rfl Try.func82 (by kernel_rfl) rfl #[.agg #[.int .u8 ((rd_T71 l0_1 x23_1).f0), .int .i64 ((rd_T71 l0_1 x23_1).f1), .int .i64 ((rd_T71 l0_1 x23_1).f2), .float .f64 ((rd_T71 l0_1 x23_1).f3), .slice A207_4 ((rd_T71 l0_1 x23_1).f4).length c207_4, .int .u8 ((rd_T71 l0_1 x23_1).f5), .int .i64 ((rd_T71 l0_1 x23_1).f6), .int .i64 ((rd_T71 l0_1 x23_1).f7)], .int .i64 (l0_1.length : Int)] rfl (by (try simp only [List.map_toArray, List.map_cons, List.map_nil]); first | done | rfl | (simp only [List.length_drop, List.length_take]; rfl)) ?_; (with_reducible refine (thicketref07_node.calls k1 ((rd_T71 l0_1 x23_1).f0) ((rd_T71 l0_1 x23_1).f1) ((rd_T71 l0_1 x23_1).f2) ((rd_T71 l0_1 x23_1).f3) _ _ ((rd_T71 l0_1 x23_1).f4) ((rd_T71 l0_1 x23_1).f5) ((rd_T71 l0_1 x23_1).f6) ((rd_T71 l0_1 x23_1).f7) (l0_1.length : Int) true _ ?side1 ?side2 A15.out).mono ?_); (case side1 => exact Kd.C_below HR207_4.out (kB2 HB GE203 GE208)); (case side2 => exact HC207_4.out); rintro e w32 ⟨rfl, hb⟩; refine ⟨_, rfl, ?_⟩; have n0_ := aS_ (Kd.R_below (by (with_reducible repeat (first | apply Kd.R_alloc | apply Kd.R_drewN | apply Kd.R_drew)); exact (Kd.R_mono (Kd.R_far8 (Kd.R_types HO_5.out BK208.out (by decide)) (fun _ hk => hk.2) _ _ _ _ _ _ _ _) (fun _ h_ => h_.1))) hb); have n1_ := aS_ (blk_below (g := gb203) (o := .cells #[.int .i64 a0_0, .slice (some ad207) l0_1.length c0_1] 53 (0, 0)) (by (with_reducible repeat (first | refine blk_drewN ?_ _ | refine blk_drew ?_ | refine blk_alloc ?_ _)); refine blk_far8 ?_ NB203_208.out _ _ _ _ _ _ _ _; (with_reducible repeat (first | refine blk_drewN ?_ _ | refine blk_drew ?_ | refine blk_alloc ?_ _)); exact BK203.out) hb); have n2_ := aS_ (blk_below (g := gb208) (o := .cells #[.int .u8 ((rd_T71 l0_1 x23_1).f0), .int .i64 ((rd_T71 l0_1 x23_1).f1), .int .i64 ((rd_T71 l0_1 x23_1).f2), .float .f64 ((rd_T71 l0_1 x23_1).f3), .slice A207_4 ((rd_T71 l0_1 x23_1).f4).length c207_4, .int .u8 ((rd_T71 l0_1 x23_1).f5), .int .i64 ((rd_T71 l0_1 x23_1).f6), .int .i64 ((rd_T71 l0_1 x23_1).f7)] 71 (0, 0)) (by (with_reducible repeat (first | refine blk_drewN ?_ _ | refine blk_drew ?_ | refine blk_alloc ?_ _)); exact blk_put8 (kb BK208) _ _ _ _ _ _ _ _) hb); have n3_ := aS_ (below_step (kB2 HB GE203 GE208) hb); clear HO_5; clear BK203; clear BK208; clear HB; have HO_5 := n0_; have BK203 := n1_; have BK208 := n2_; have HB := n3_; clear n0_ n1_ n2_ n3_; (try clear hb); (try clear hb2); (try clear hk); (try clear hi); have hcz33 := blk8 (w := w32) BK208.out; obtain ⟨Ao34, co34, eo34⟩ := Kd.R_slice HO_5.out; subst eo34; have p210 : 0 ≤ (((rd_T71 l0_1 x23_1).f6) : Int) := of_decide_eq_true ka; have q210 : ((rd_T71 l0_1 x23_1).f6) < (x5_1.length : Int) := of_decide_eq_true ka; obtain ⟨ad210, e210, hx210_0⟩ := Kd.at_int (Kd.R_reads' HO_5.out).2.2 ((rd_T71 l0_1 x23_1).f6) p210 q210; cases e210; replace p210 := eq_true p210; replace q210 := eq_true q210; have p25 : 0 ≤ (((rd_T71 l0_1 x23_1).f6) : Int) := of_decide_eq_true ka; have q25 : (((rd_T71 l0_1 x23_1).f6) : Int) < ((x5_1.length : Int) : Int) := of_decide_eq_true ka; obtain ⟨go25, co25, eo25, gb25, gl25, cl25, HG25⟩ := Kd.R_form HO_5.out (by omega); (first | cases eo25 | (injection eo25 with ea_ en_ ec_; (first | subst ea_ | (injection ea_ with ea_; subst ea_)); subst ec_; clear en_)); have GB25 := aS_ gb25; have GG25 := aS_ HG25; clear gb25 gl25 HG25; (first | simp only [add_plain] at hx210_0 | skip); obtain ⟨hx25_0, hf25_0⟩ := Kd.R_celln 0 HO_5.out (((rd_T71 l0_1 x23_1).f6) : Int) p25 q25; replace p25 := eq_true p25; replace q25 := eq_true q25; obtain ⟨hy35_, hz35_⟩ := Kd.R_celln 0 HO_5.out (((rd_T71 l0_1 x23_1).f6) : Int) (of_decide_eq_true ka) (of_decide_eq_true ka); have HP35 := Kd.R_putg HO_5.out (((rd_T71 l0_1 x23_1).f6) : Int) (wrap64 ((rd x5_1 ((rd_T71 l0_1 x23_1).f6)) + 1))) | ((with_reducible refine gate_store (t := 3) (p := 42) rfl ?_); refine store_event (t := 3) (p := 42) (v := ?vo_w36) (w1 := (w32.setCell ⟨go25, (((rd_T71 l0_1 x23_1).f6) : Int).toNat, none⟩ (.int .i64 (wrap64 ((rd x5_1 ((rd_T71 l0_1 x23_1).f6)) + 1))))) ?hg ?ho ?hn ?hr ?_; (case ho => rfl); (case hg => rfl); (case hn => rfl); (case hr => first | (go_simp; done) | (go_simp; rfl)); intro w36 hw; have hg : w32.grownBy w36 (some go25) := (by rw [hw]; exact HP35.2); have hp_ : Kd.R (Kd.int .i64) 3 w36 w.heap.size (fun _ => True) (.slice (some ⟨go25, 0, none⟩) x5_1.length co34) y211 := (by rw [hw, Ny211.out]; exact HP35.1); clear HP35; have n0_ := aS_ (hp_); have n1_ := aS_ (blk_grown (g := gb203) (o := .cells #[.int .i64 a0_0, .slice (some ad207) l0_1.length c0_1] 53 (0, 0)) (kb BK203) hg (Kd.R_ne HO_5.out BK203.out (by decide))); have n2_ := aS_ (blk_grown (g := gb208) (o := .cells #[.int .u8 ((rd_T71 l0_1 x23_1).f0), .int .i64 ((rd_T71 l0_1 x23_1).f1), .int .i64 ((rd_T71 l0_1 x23_1).f2), .float .f64 ((rd_T71 l0_1 x23_1).f3), .slice A207_4 ((rd_T71 l0_1 x23_1).f4).length c207_4, .int .u8 ((rd_T71 l0_1 x23_1).f5), .int .i64 ((rd_T71 l0_1 x23_1).f6), .int .i64 ((rd_T71 l0_1 x23_1).f7)] 71 (0, 0)) (kb BK208) hg (Kd.R_ne HO_5.out BK208.out (by decide))); have n3_ := aS_ ((by rw [hw]; exact below_set (HB.out) GB25.out : Below w.heap.size w w36)); clear HO_5; clear BK203; clear BK208; clear HB; have HO_5 := n0_; have BK203 := n1_; have BK208 := n2_; have HB := n3_; clear n0_ n1_ n2_ n3_; clear hg hw hp_; have hcz37 := blk8 (w := w36) BK208.out; have p212 : 0 ≤ (((rd_T71 l0_1 x23_1).f7) : Int) := of_decide_eq_true ka; have q212 : ((rd_T71 l0_1 x23_1).f7) < (y211.length : Int) := (by have h_ : (((rd_T71 l0_1 x23_1).f7) : Int) < ((x5_1.length : Int) : Int) := of_decide_eq_true ka; first | (have e_ := (Kd.R_reads' HO_5.out).1; omega) | simpa only [Ny211.out, List.length_set] using h_); have ql212 : ((((rd_T71 l0_1 x23_1).f7) : Int) < ((x5_1.length : Int) : Int)) = True := eq_true (of_decide_eq_true ka); obtain ⟨ad212, e212, hx212_0⟩ := Kd.at_int (Kd.R_reads' HO_5.out).2.2 ((rd_T71 l0_1 x23_1).f7) p212 q212; obtain rfl : (⟨go25, 0, none⟩ : Addr) = ad212 := (by injection e212); (first | simp only [add_plain] at hx212_0 | simp only [add_at] at hx212_0 | simp only [Addr.add, Nat.zero_add] at hx212_0 | skip); replace p212 := eq_true p212; replace q212 := eq_true q212; have p28 : 0 ≤ (((rd_T71 l0_1 x23_1).f7) : Int) := of_decide_eq_true ka; have q28 : (((rd_T71 l0_1 x23_1).f7) : Int) < ((x5_1.length : Int) : Int) := of_decide_eq_true ka; obtain ⟨hx28_0, hf28_0⟩ := Kd.R_celln 0 HO_5.out (((rd_T71 l0_1 x23_1).f7) : Int) p28 q28; replace p28 := eq_true p28; replace q28 := eq_true q28; obtain ⟨hy38_, hz38_⟩ := Kd.R_celln 0 HO_5.out (((rd_T71 l0_1 x23_1).f7) : Int) (of_decide_eq_true ka) (of_decide_eq_true ka); have HP38 := Kd.R_putg HO_5.out (((rd_T71 l0_1 x23_1).f7) : Int) (wrap64 ((rd y211 ((rd_T71 l0_1 x23_1).f7)) + 1))) | ((with_reducible refine gate_store (t := 3) (p := 49) rfl ?_); refine store_event (t := 3) (p := 49) (v := ?vo_w39) (w1 := (w36.setCell ⟨go25, (((rd_T71 l0_1 x23_1).f7) : Int).toNat, none⟩ (.int .i64 (wrap64 ((rd y211 ((rd_T71 l0_1 x23_1).f7)) + 1))))) ?hg ?ho ?hn ?hr ?_; (case ho => rfl); (case hg => rfl); (case hn => rfl); (case hr => first | (go_simp; done) | (go_simp; rfl)); intro w39 hw; have hg : w36.grownBy w39 (some go25) := (by rw [hw]; exact HP38.2); have hp_ : Kd.R (Kd.int .i64) 3 w39 w.heap.size (fun _ => True) (.slice (some ⟨go25, 0, none⟩) x5_1.length co34) y213 := (by rw [hw, Ny213.out]; exact HP38.1); clear HP38; have n0_ := aS_ (hp_); have n1_ := aS_ (blk_grown (g := gb203) (o := .cells #[.int .i64 a0_0, .slice (some ad207) l0_1.length c0_1] 53 (0, 0)) (kb BK203) hg (Kd.R_ne HO_5.out BK203.out (by decide))); have n2_ := aS_ (blk_grown (g := gb208) (o := .cells #[.int .u8 ((rd_T71 l0_1 x23_1).f0), .int .i64 ((rd_T71 l0_1 x23_1).f1), .int .i64 ((rd_T71 l0_1 x23_1).f2), .float .f64 ((rd_T71 l0_1 x23_1).f3), .slice A207_4 ((rd_T71 l0_1 x23_1).f4).length c207_4, .int .u8 ((rd_T71 l0_1 x23_1).f5), .int .i64 ((rd_T71 l0_1 x23_1).f6), .int .i64 ((rd_T71 l0_1 x23_1).f7)] 71 (0, 0)) (kb BK208) hg (Kd.R_ne HO_5.out BK208.out (by decide))); have n3_ := aS_ ((by rw [hw]; exact below_set (HB.out) GB25.out : Below w.heap.size w w39)); clear HO_5; clear BK203; clear BK208; clear HB; have HO_5 := n0_; have BK203 := n1_; have BK208 := n2_; have HB := n3_; clear n0_ n1_ n2_ n3_; clear hg hw hp_))
               go_roundg k1
               case measure => have := HK1.out; omega
               case rel => exact ⟨(y213), (wrap64 (x23_1 + 1)), kr, H', ⟨by have := HK1.out; omega⟩, ⟨kR HO_5⟩, ⟨kb BK203⟩, ⟨kB2 HB GE203 GE208⟩⟩
              ·rw [if_neg c27] at H
               exact absurd H (by simp)
             ·rw [if_neg c26] at H
              exact absurd H (by simp)
            ·rw [if_neg c24] at H
             exact absurd H (by simp)
           ·rw [if_neg c23] at H
            exact absurd H (by simp)
         ·replace c16 := Bool.eq_false_iff.mpr c16
          subst c16
          rw [if_neg (show ¬ (false = true) by decide)] at H
          simp only [Option.some.injEq, Prod.mk.injEq] at H
          obtain ⟨rfl, rfl⟩ := H
          have p207 : 0 ≤ (x23_1 : Int) := of_decide_eq_true ka
          have q207 : x23_1 < (l0_1.length : Int) := of_decide_eq_true ka
          obtain ⟨ad207, A207_4, c207_4, e207, hx207_0, hx207_1, hx207_2, hx207_3, hx207_4, hx207_5, hx207_6, hx207_7, hl207_4, hi207_4⟩ := at_T71 HR0_1.out x23_1 p207 q207
          cases e207
          replace hx207_0 := cB_ HB.out hx207_0
          replace hx207_1 := cB_ HB.out hx207_1
          replace hx207_2 := cB_ HB.out hx207_2
          replace hx207_3 := cB_ HB.out hx207_3
          replace hx207_4 := cB_ HB.out hx207_4
          replace hx207_5 := cB_ HB.out hx207_5
          replace hx207_6 := cB_ HB.out hx207_6
          replace hx207_7 := cB_ HB.out hx207_7
          have HR207_4 := aS_ hi207_4
          have HC207_4 := aS_ hl207_4
          clear hi207_4 hl207_4
          replace p207 := eq_true p207
          replace q207 := eq_true q207
          go_wp2_with (first | ((with_reducible refine gate_dst (N := 7) rfl ?_); refine box_event ?hg (N := 7) ?hd (cs := #[.int .u8 0, .int .i64 0, .int .i64 0, .float .f64 0, .slice none 0 0, .int .u8 0, .int .i64 0, .int .i64 0]) (t := 71) ?hr ?_; (case hd => rfl); (case hg => rfl); (case hr => first | (go_simp; done) | (go_simp; rfl)); intro gb208 hg w40 hbox hb; have n0_ := aS_ (Kd.R_below (kR HO_5) hb); have n1_ := aS_ (blk_below (g := gb203) (o := .cells #[.int .i64 a0_0, .slice (some ad207) l0_1.length c0_1] 53 (0, 0)) (kb BK203) hb); have n2_ := aS_ (below_step (kB1 HB GE203) hb); have n3_ := aS_ (hbox); have n4_ := aS_ ((kg hg (kB1 HB GE203) : w.heap.size ≤ gb208)); have n5_ := aS_ ((kg hg (kB1 HB GE203) : w.heap.size ≤ gb208)); have n6_ := aS_ ((by rw [hg]; exact Nat.ne_of_lt (blk_lt (g := gb203) (o := .cells #[.int .i64 a0_0, .slice (some ad207) l0_1.length c0_1] 53 (0, 0)) (kb BK203)) : gb203 ≠ gb208)); have n7_ := aS_ ((by rw [hg]; exact Nat.ne_of_gt (blk_lt (g := gb203) (o := .cells #[.int .i64 a0_0, .slice (some ad207) l0_1.length c0_1] 53 (0, 0)) (kb BK203)) : gb208 ≠ gb203)); clear HO_5; clear BK203; clear HB; have HO_5 := n0_; have BK203 := n1_; have HB := n2_; have BK208 := n3_; have GW208 := n4_; have GE208 := n5_; have NB203_208 := n6_; have NB208_203 := n7_; clear n0_ n1_ n2_ n3_ n4_ n5_ n6_ n7_; clear hb hbox hg; have hnb41 := NB208_203.out; have hnc41 := NB203_208.out; have hcz42 := blk8 (w := w40) BK208.out) | ((with_reducible refine gate_callee (f := 82) rfl ?_); refine goesL_ (some 30) rfl rfl Try.func82 (by kernel_rfl) rfl #[.agg #[.int .u8 ((rd_T71 l0_1 x23_1).f0), .int .i64 ((rd_T71 l0_1 x23_1).f1), .int .i64 ((rd_T71 l0_1 x23_1).f2), .float .f64 ((rd_T71 l0_1 x23_1).f3), .slice A207_4 ((rd_T71 l0_1 x23_1).f4).length c207_4, .int .u8 ((rd_T71 l0_1 x23_1).f5), .int .i64 ((rd_T71 l0_1 x23_1).f6), .int .i64 ((rd_T71 l0_1 x23_1).f7)], .int .i64 (l0_1.length : Int)] rfl (by (try simp only [List.map_toArray, List.map_cons, List.map_nil]); first | done | rfl | (simp only [List.length_drop, List.length_take]; rfl)) ?_; (with_reducible refine (thicketref07_node.calls k1 ((rd_T71 l0_1 x23_1).f0) ((rd_T71 l0_1 x23_1).f1) ((rd_T71 l0_1 x23_1).f2) ((rd_T71 l0_1 x23_1).f3) _ _ ((rd_T71 l0_1 x23_1).f4) ((rd_T71 l0_1 x23_1).f5) ((rd_T71 l0_1 x23_1).f6) ((rd_T71 l0_1 x23_1).f7) (l0_1.length : Int) false _ ?side1 ?side2 A15.out).mono ?_); (case side1 => exact Kd.C_below HR207_4.out (kB2 HB GE203 GE208)); (case side2 => exact HC207_4.out); rintro e w43 ⟨rfl, hb⟩; refine ⟨_, rfl, ?_⟩; have n0_ := aS_ (Kd.R_below (by (with_reducible repeat (first | apply Kd.R_alloc | apply Kd.R_drewN | apply Kd.R_drew)); exact (Kd.R_mono (Kd.R_far8 (Kd.R_types HO_5.out BK208.out (by decide)) (fun _ hk => hk.2) _ _ _ _ _ _ _ _) (fun _ h_ => h_.1))) hb); have n1_ := aS_ (blk_below (g := gb203) (o := .cells #[.int .i64 a0_0, .slice (some ad207) l0_1.length c0_1] 53 (0, 0)) (by (with_reducible repeat (first | refine blk_drewN ?_ _ | refine blk_drew ?_ | refine blk_alloc ?_ _)); refine blk_far8 ?_ NB203_208.out _ _ _ _ _ _ _ _; (with_reducible repeat (first | refine blk_drewN ?_ _ | refine blk_drew ?_ | refine blk_alloc ?_ _)); exact BK203.out) hb); have n2_ := aS_ (blk_below (g := gb208) (o := .cells #[.int .u8 ((rd_T71 l0_1 x23_1).f0), .int .i64 ((rd_T71 l0_1 x23_1).f1), .int .i64 ((rd_T71 l0_1 x23_1).f2), .float .f64 ((rd_T71 l0_1 x23_1).f3), .slice A207_4 ((rd_T71 l0_1 x23_1).f4).length c207_4, .int .u8 ((rd_T71 l0_1 x23_1).f5), .int .i64 ((rd_T71 l0_1 x23_1).f6), .int .i64 ((rd_T71 l0_1 x23_1).f7)] 71 (0, 0)) (by (with_reducible repeat (first | refine blk_drewN ?_ _ | refine blk_drew ?_ | refine blk_alloc ?_ _)); exact blk_put8 (kb BK208) _ _ _ _ _ _ _ _) hb); have n3_ := aS_ (below_step (kB2 HB GE203 GE208) hb); clear HO_5; clear BK203; clear BK208; clear HB; have HO_5 := n0_; have BK203 := n1_; have BK208 := n2_; have HB := n3_; clear n0_ n1_ n2_ n3_; (try clear hb); (try clear hb2); (try clear hk); (try clear hi)))
          go_ret2
          exact ⟨by first | rfl | (simp [errW_none, errW_some] <;> rfl) | (simp [*, errW_none, errW_some] <;> rfl), kB2 HB GE203 GE208⟩
        ·rw [if_neg c14] at H
         exact absurd H (by simp)
       ·rw [if_neg c13] at H
        exact absurd H (by simp)
      ·rw [if_neg c12] at H
       have c12b0 := decide_eq_false c12
       clear c12
       by_cases c44 : 0 ≤ (l0_1.length : Int)
       ·rw [if_pos c44] at H
        have c44b0 := eq_true c44
        have c44b1 := decide_eq_true c44
        clear c44
        by_cases c45 : ((l0_1.length : Int) : Int).toNat ≤ 281474976710656
        ·rw [if_pos c45] at H
         have c45b0 := eq_true c45
         have c45b1 := decide_eq_true c45
         clear c45
         obtain ⟨y214, hy214⟩ : ∃ y_ : List Bool, y_ = (List.replicate ((l0_1.length : Int) : Int).toNat false) := ⟨_, rfl⟩
         (try replace H := bS_ H); rw [← hy214] at H; try dsimp only at H
         have Ny214 := aS_ hy214
         clear hy214
         obtain ⟨y217, hy217⟩ : ∃ y_ : List Int, y_ = (([0] : List Int)) := ⟨_, rfl⟩
         (try replace H := bS_ H); rw [← hy217] at H; try dsimp only at H
         have Ny217 := aS_ hy217
         clear hy217
         have H' := aS_ H
         clear H
         go_wp2_with (first | ((with_reducible refine gate_dst (N := 52) rfl ?_); refine Kd.R_make Kd.bool _ 4 rfl (N := 52) rfl 47 _ _ rfl (l0_1.length : Int) rfl rfl Try.underlying47 (.bool false) 1 info4 rfl (by decide) (by omega) false (ok := fun _ => True) (okp := fun _ => True) rfl (fun _ hk => hk) trivial (of_decide_eq_true ka) (Nat.le_trans (Nat.mul_le_mul_right _ (of_decide_eq_true ka : (l0_1.length : Int).toNat ≤ 281474976710656)) (by omega)) (Below.refl _ _) (Nat.le_refl _) ?_; intro v215 w46 ho47 hb hg_ hnew_; clear hg_ hnew_; (first | rw [← Ny214.out] at ho47 | (simp only [Int.reduceToNat] at ho47; rw [← Ny214.out] at ho47)); have n0_ := aS_ (Kd.R_below (kR HO_5) hb); have n1_ := aS_ (Kd.R_lower ho47 (below_size (kB1 HB GE203))); have n2_ := aS_ (blk_below (g := gb203) (o := .cells #[.int .i64 a0_0, .slice A0_1 l0_1.length c0_1] 53 (0, 0)) (kb BK203) hb); have n3_ := aS_ (below_step (kB1 HB GE203) hb); clear HO_5; clear BK203; clear HB; have HO_5 := n0_; have HO216 := n1_; have BK203 := n2_; have HB := n3_; clear n0_ n1_ n2_ n3_; clear hb ho47) | ((with_reducible refine gate_dst (N := 53) rfl ?_); refine Kd.R_lit (Kd.int .i64) _ 3 ?hg (N := 53) ?hd (xs := ([0] : List Int)) (inner := [.int .i64 0]) (ok := fun _ => True) (okp := fun _ => True) ?hr ?hp (fun _ hk => hk) trivial (Below.refl _ _) (Nat.le_refl _) (by simp) ?_; (case hd => rfl); (case hg => rfl); (case hr => first | (go_simp; done) | (go_simp; rfl)); (case hp => exact (Reps.one (show Kd.M (Kd.int .i64) _ _ _ 0 [.int .i64 0] from rfl) (Reps.none _ _))); intro v218 w48 ho49 hb hg_ hnew_; clear hg_ hnew_; (first | rw [← Ny217.out] at ho49 | (simp only [Int.reduceToNat] at ho49; rw [← Ny217.out] at ho49)); have n0_ := aS_ (Kd.R_elder' (kR HO_5) (Kd.R_base ho49) hb); have n1_ := aS_ (Kd.R_below (kR HO216) hb); have n2_ := aS_ (Kd.R_lower (Kd.R_new' ho49 (Kd.R_lt (kR HO_5))) (below_size (kB1 HB GE203))); have n3_ := aS_ (blk_below (g := gb203) (o := .cells #[.int .i64 a0_0, .slice A0_1 l0_1.length c0_1] 53 (0, 0)) (kb BK203) hb); have n4_ := aS_ (below_step (kB1 HB GE203) hb); clear HO_5; clear HO216; clear BK203; clear HB; have HO_5 := n0_; have HO216 := n1_; have HO219 := n2_; have BK203 := n3_; have HB := n4_; clear n0_ n1_ n2_ n3_ n4_; clear hb ho49))
         go_loopg [9] k1 (fun kq v9 w' => ∃ (x8_2 : List Bool) (x9_2 : List Int), Aside0 (thicketref07_Shape.l1 kq x5_1 x8_2 x9_2 a0_0 l0_1 = some (r1, r2)) ∧ Aside0 (kq ≤ k1) ∧ Aside0 (Kd.R (Kd.int .i64) 3 w' w.heap.size (fun k_ => some k_ ≠ (v9 : Value).ownBlock) v205 x5_1) ∧ Aside0 (Kd.R Kd.bool 4 w' w.heap.size (fun _ => True) v215 x8_2) ∧ Aside0 (Kd.R (Kd.int .i64) 3 w' w.heap.size (fun k_ => some k_ ≠ (v205 : Value).ownBlock) v9 x9_2) ∧ Aside0 (w'.heap[gb203]? = some (.cells #[.int .i64 a0_0, (.slice A0_1 l0_1.length c0_1)] 53 (0, 0))) ∧ Aside0 (Below w.heap.size w w'))
         case atStart => exact ⟨(y214), (y217), H', ⟨Nat.le_refl _⟩, ⟨by (with_reducible repeat (first | apply Kd.R_alloc | apply Kd.R_drewN | apply Kd.R_drew)); exact Kd.R_mono HO_5.out (fun _ hk => hk.2)⟩, ⟨kR HO216⟩, ⟨by (with_reducible repeat (first | apply Kd.R_alloc | apply Kd.R_drewN | apply Kd.R_drew)); exact Kd.R_mono HO219.out (fun _ hk => hk.2)⟩, ⟨kb BK203⟩, ⟨kB1 HB GE203⟩⟩
         case round =>
          clear H'
          try clear c1; try clear c2; try clear c2b0; try clear c2b1; try clear c2b2; try clear p2; try clear q2; try clear hx2; try clear hf2; try clear c3; try clear c4; try clear c5; try clear c5b0; try clear c5b1; try clear c6; try clear c6b0; try clear c6b1; try clear p6; try clear c7; try clear c8; try clear c12; try clear c12b0; try clear c13; try clear c13b0; try clear c14; try clear c14b0; try clear c16; try clear c17; try clear c17b0; try clear c17b1; try clear c19; try clear c20; try clear p20; try clear q20; try clear hx20; try clear p21; try clear q21; try clear hx21; try clear c23; try clear c23b0; try clear c24; try clear c24b0; try clear p25; try clear q25; try clear hx25; try clear hf25; try clear c26; try clear c26b0; try clear c27; try clear c27b0; try clear p28; try clear q28; try clear hx28; try clear hf28; try clear c30; try clear c41; try clear c44; try clear c44b0; try clear c44b1; try clear c45; try clear c45b0; try clear c45b1; try clear hcz11; try clear hcz20; try clear hcz22; try clear hcz31; try clear hcz33; try clear hcz37; try clear hcz42; try clear hcz4; try clear hcz8; try clear hx207_0; try clear hx207_1; try clear hx207_2; try clear hx207_3; try clear hx207_4; try clear hx207_5; try clear hx207_6; try clear hx207_7; try clear hx210_0; try clear hx212_0; try clear hx25_0; try clear hx28_0; try clear p207; try clear p210; try clear p212; try clear q207; try clear q210; try clear q212
          obtain ⟨x8_2, x9_2, HA, HK2, HO_5, HO_8, HO_9, BK203, HB⟩ := hrel
          cases gk with
          | zero => exact absurd HA.out (by simp [thicketref07_Shape.l1])
          | succ k2 =>
           have H := HA.out
           clear HA
           simp only [thicketref07_Shape.l1] at H
           by_cases c50 : (x9_2.length : Int) > 0
           ·rw [if_pos c50] at H
            have c50b0 := decide_eq_true c50
            have c50b1 : decide (0 < x9_2.length) = true := decide_eq_true (by omega)
            clear c50
            obtain ⟨ji51, hji51⟩ : ∃ j_ : Int, (wrap64 ((x9_2.length : Int) - 1)) = j_ := ⟨_, rfl⟩
            replace H : (if 0 ≤ (ji51) then (if (ji51) < (x9_2.length : Int) then (if (ji51) ≤ (x9_2.length : Int) then ((some (x9_2.take ((ji51) : Int).toNat : List Int)).bind fun y221 => (if 0 ≤ (rd x9_2 (ji51)) then (if (rd x9_2 (ji51)) < (x8_2.length : Int) then (if rdOf false x8_2 (rd x9_2 (ji51)) = true then (thicketref07_Shape.l1 k2 x5_1 x8_2 y221 a0_0 l0_1) else ((some (x8_2.set ((rd x9_2 (ji51)) : Int).toNat true : List Bool)).bind fun y225 => (if (rd x9_2 (ji51)) < (l0_1.length : Int) then (if ((rd_T71 l0_1 (rd x9_2 (ji51))).f0) = 1 then (thicketref07_Shape.l1 k2 x5_1 y225 y221 a0_0 l0_1) else ((some (([(rd_T71 l0_1 (rd x9_2 (ji51))).f6, (rd_T71 l0_1 (rd x9_2 (ji51))).f7] : List Int) : List Int)).bind fun y228 => (if y221.length + y228.length < 17592186044416 then (thicketref07_Shape.l1 k2 x5_1 y225 (y221 ++ y228) a0_0 l0_1) else (none)))) else (none)))) else (none)) else (none))) else (none)) else (none)) else (none)) = some (r1, r2) := by first | (rw [hji51] at H; exact H) | (simp only [hji51] at H ⊢; exact H)
            have hji51w : (IntKind.i64.wrap ((x9_2.length : Int) - 1)) = ji51 := (i64_w _).trans hji51
            by_cases c52 : 0 ≤ (ji51)
            ·rw [if_pos c52] at H
             have c52b0 := decide_eq_true c52
             clear c52
             by_cases c53 : (ji51) < (x9_2.length : Int)
             ·rw [if_pos c53] at H
              have c53b0 := decide_eq_true c53
              clear c53
              by_cases c54 : (ji51) ≤ (x9_2.length : Int)
              ·rw [if_pos c54] at H
               have c54b0 := eq_true c54
               have c54b1 := decide_eq_true c54
               clear c54
               obtain ⟨y221, hy221⟩ : ∃ y_ : List Int, y_ = (x9_2.take ((ji51) : Int).toNat) := ⟨_, rfl⟩
               (try replace H := bS_ H); rw [← hy221] at H; try dsimp only at H
               have Ny221 := aS_ hy221
               clear hy221
               by_cases c55 : 0 ≤ (rd x9_2 (ji51))
               ·rw [if_pos c55] at H
                have c55b0 := decide_eq_true c55
                clear c55
                by_cases c56 : (rd x9_2 (ji51)) < (x8_2.length : Int)
                ·rw [if_pos c56] at H
                 have c56b0 := decide_eq_true c56
                 clear c56
                 obtain ⟨bq57, hbq57⟩ : ∃ b_ : Bool, b_ = (rdOf false x8_2 (rd x9_2 (ji51))) := ⟨_, rfl⟩
                 replace H : (if bq57 = true then (thicketref07_Shape.l1 k2 x5_1 x8_2 y221 a0_0 l0_1) else ((some (x8_2.set ((rd x9_2 (ji51)) : Int).toNat true : List Bool)).bind fun y225 => (if (rd x9_2 (ji51)) < (l0_1.length : Int) then (if ((rd_T71 l0_1 (rd x9_2 (ji51))).f0) = 1 then (thicketref07_Shape.l1 k2 x5_1 y225 y221 a0_0 l0_1) else ((some (([(rd_T71 l0_1 (rd x9_2 (ji51))).f6, (rd_T71 l0_1 (rd x9_2 (ji51))).f7] : List Int) : List Int)).bind fun y228 => (if y221.length + y228.length < 17592186044416 then (thicketref07_Shape.l1 k2 x5_1 y225 (y221 ++ y228) a0_0 l0_1) else (none)))) else (none)))) = some (r1, r2) := by rw [← hbq57] at H; exact H
                 have Nbq57 := aS_ hbq57
                 clear hbq57
                 by_cases c58 : bq57 = true
                 ·subst c58
                  rw [if_pos rfl] at H
                  have H' := aS_ H
                  clear H
                  obtain ⟨Ao59, co59, eo59⟩ := Kd.R_slice HO_9.out
                  subst eo59
                  have p220 : 0 ≤ ((ji51) : Int) := of_decide_eq_true ka
                  have q220 : (ji51) < (x9_2.length : Int) := of_decide_eq_true ka
                  obtain ⟨ad220, e220, hx220_0⟩ := Kd.at_int (Kd.R_reads' HO_9.out).2.2 (ji51) p220 q220
                  cases e220
                  replace p220 := eq_true p220
                  replace q220 := eq_true q220
                  have q60 : ((ji51) : Int) ≤ ((x9_2.length : Int) : Int) := of_decide_eq_true ka
                  obtain ⟨i060, hi060, _, hsz60, _⟩ := info_parts info3
                  have hcut60 := cut_to (P := Try.prog) 54 3 .i64 Try.underlying54 hi060 (some ad220) x9_2.length co59 (ji51) (of_decide_eq_true ka) q60 (Kd.R_reads' HO_9.out).2.1
                  have hr60 := Kd.R_take (m := ((ji51) : Int).toNat) HO_9.out (by omega)
                  have hy60 : y221.length = ((ji51) : Int).toNat := (by rw [Ny221.out, List.length_take]; omega)
                  rw [← Ny221.out] at hr60
                  rw [← hy60] at hr60 hcut60
                  clear hy60 hi060 hsz60 HO_9
                  have HO223 := aS_ hr60
                  clear hr60
                  replace q60 := eq_true q60
                  obtain ⟨Ao61, co61, eo61⟩ := Kd.R_slice HO_8.out
                  subst eo61
                  have p224 : 0 ≤ ((rd x9_2 (ji51)) : Int) := of_decide_eq_true ka
                  have q224 : (rd x9_2 (ji51)) < (x8_2.length : Int) := of_decide_eq_true ka
                  obtain ⟨ad224, e224, hx224_0⟩ := Kd.at_bool (Kd.R_reads' HO_8.out).2.2 (rd x9_2 (ji51)) p224 q224
                  (try rw [← Nbq57.out] at hx224_0)
                  cases e224
                  replace p224 := eq_true p224
                  replace q224 := eq_true q224
                  go_wp2
                  go_roundg k2
                  case measure => have := HK1.out; have := HK2.out; omega
                  case rel => exact ⟨(x8_2), (y221), H', ⟨by have := HK1.out; have := HK2.out; omega⟩, ⟨kR HO_5⟩, ⟨kR HO_8⟩, ⟨kR HO223⟩, ⟨kb BK203⟩, ⟨kB1 HB GE203⟩⟩
                 ·replace c58 := Bool.eq_false_iff.mpr c58
                  subst c58
                  rw [if_neg (show ¬ (false = true) by decide)] at H
                  obtain ⟨y225, hy225⟩ : ∃ y_ : List Bool, y_ = (x8_2.set ((rd x9_2 (ji51)) : Int).toNat true) := ⟨_, rfl⟩
                  (try replace H := bS_ H); rw [← hy225] at H; try dsimp only at H
                  have Ny225 := aS_ hy225
                  clear hy225
                  by_cases c63 : (rd x9_2 (ji51)) < (l0_1.length : Int)
                  ·rw [if_pos c63] at H
                   have c63b0 := decide_eq_true c63
                   clear c63
                   by_cases c64 : ((rd_T71 l0_1 (rd x9_2 (ji51))).f0) = 1
                   ·rw [if_pos c64] at H
                    have c64b0 := beq_iff_eq.mpr c64
                    have c64b1 := bne_eq_false_iff_eq.mpr c64
                    clear c64
                    have H' := aS_ H
                    clear H
                    obtain ⟨Ao65, co65, eo65⟩ := Kd.R_slice HO_9.out
                    subst eo65
                    have p220 : 0 ≤ ((ji51) : Int) := of_decide_eq_true ka
                    have q220 : (ji51) < (x9_2.length : Int) := of_decide_eq_true ka
                    obtain ⟨ad220, e220, hx220_0⟩ := Kd.at_int (Kd.R_reads' HO_9.out).2.2 (ji51) p220 q220
                    cases e220
                    replace p220 := eq_true p220
                    replace q220 := eq_true q220
                    have q66 : ((ji51) : Int) ≤ ((x9_2.length : Int) : Int) := of_decide_eq_true ka
                    obtain ⟨i066, hi066, _, hsz66, _⟩ := info_parts info3
                    have hcut66 := cut_to (P := Try.prog) 54 3 .i64 Try.underlying54 hi066 (some ad220) x9_2.length co65 (ji51) (of_decide_eq_true ka) q66 (Kd.R_reads' HO_9.out).2.1
                    have hr66 := Kd.R_take (m := ((ji51) : Int).toNat) HO_9.out (by omega)
                    have hy66 : y221.length = ((ji51) : Int).toNat := (by rw [Ny221.out, List.length_take]; omega)
                    rw [← Ny221.out] at hr66
                    rw [← hy66] at hr66 hcut66
                    clear hy66 hi066 hsz66 HO_9
                    have HO223 := aS_ hr66
                    clear hr66
                    replace q66 := eq_true q66
                    obtain ⟨Ao67, co67, eo67⟩ := Kd.R_slice HO_8.out
                    subst eo67
                    have p224 : 0 ≤ ((rd x9_2 (ji51)) : Int) := of_decide_eq_true ka
                    have q224 : (rd x9_2 (ji51)) < (x8_2.length : Int) := of_decide_eq_true ka
                    obtain ⟨ad224, e224, hx224_0⟩ := Kd.at_bool (Kd.R_reads' HO_8.out).2.2 (rd x9_2 (ji51)) p224 q224
                    (try rw [← Nbq57.out] at hx224_0)
                    cases e224
                    replace p224 := eq_true p224
                    replace q224 := eq_true q224
                    have p62 : 0 ≤ ((rd x9_2 (ji51)) : Int) := of_decide_eq_true ka
                    have q62 : ((rd x9_2 (ji51)) : Int) < ((x8_2.length : Int) : Int) := of_decide_eq_true ka
                    obtain ⟨go62, co62, eo62, gb62, gl62, cl62, HG62⟩ := Kd.R_form HO_8.out (by omega)
                    (first | cases eo62 | (injection eo62 with ea_ en_ ec_; (first | subst ea_ | (injection ea_ with ea_; subst ea_)); subst ec_; clear en_))
                    have GB62 := aS_ gb62
                    have GG62 := aS_ HG62
                    clear gb62 gl62 HG62
                    (first | simp only [add_plain] at hx224_0 | skip)
                    obtain ⟨hx62_0, hf62_0⟩ := Kd.R_celln false HO_8.out ((rd x9_2 (ji51)) : Int) p62 q62
                    replace p62 := eq_true p62
                    replace q62 := eq_true q62
                    have HP68 := Kd.R_putg HO_8.out ((rd x9_2 (ji51)) : Int) true
                    go_wp2_with (first | ((with_reducible refine gate_store (t := 4) (p := 74) rfl ?_); refine store_event (t := 4) (p := 74) (v := ?vo_w69) (w1 := (wr.setCell ⟨go62, ((rd x9_2 (ji51)) : Int).toNat, none⟩ (.bool true))) ?hg ?ho ?hn ?hr ?_; (case ho => rfl); (case hg => rfl); (case hn => rfl); (case hr => first | (go_simp; done) | (go_simp; rfl)); intro w69 hw; have hg : wr.grownBy w69 (some go62) := (by rw [hw]; exact HP68.2); have hp_ : Kd.R Kd.bool 4 w69 w.heap.size (fun _ => True) (.slice (some ⟨go62, 0, none⟩) x8_2.length co67) y225 := (by rw [hw, Ny225.out]; exact HP68.1); clear HP68; have n0_ := aS_ (Kd.R_over' (v := (.slice (some ⟨go62, 0, none⟩) x8_2.length co67)) (kR HO_5) (Kd.R_typed HO_8.out) (by decide) hg); have n1_ := aS_ (hp_); have n2_ := aS_ (Kd.R_over' (v := (.slice (some ⟨go62, 0, none⟩) x8_2.length co67)) (kR HO223) (Kd.R_typed HO_8.out) (by decide) hg); have n3_ := aS_ (blk_grown (g := gb203) (o := .cells #[.int .i64 a0_0, .slice A0_1 l0_1.length c0_1] 53 (0, 0)) (kb BK203) hg (Kd.R_ne HO_8.out BK203.out (by decide))); have n4_ := aS_ ((by rw [hw]; exact below_set (HB.out) GB62.out : Below w.heap.size w w69)); clear HO_5; clear HO_8; clear HO223; clear BK203; clear HB; have HO_5 := n0_; have HO_8 := n1_; have HO223 := n2_; have BK203 := n3_; have HB := n4_; clear n0_ n1_ n2_ n3_ n4_; clear hg hw hp_; have hcz70 := blk2 (w := w69) BK203.out; have p226 : 0 ≤ ((rd x9_2 (ji51)) : Int) := of_decide_eq_true ka; have q226 : (rd x9_2 (ji51)) < (l0_1.length : Int) := of_decide_eq_true ka; obtain ⟨ad226, A226_4, c226_4, e226, hx226_0, hx226_1, hx226_2, hx226_3, hx226_4, hx226_5, hx226_6, hx226_7, hl226_4, hi226_4⟩ := at_T71 HR0_1.out (rd x9_2 (ji51)) p226 q226; cases e226; replace hx226_0 := cB_ HB.out hx226_0; replace hx226_1 := cB_ HB.out hx226_1; replace hx226_2 := cB_ HB.out hx226_2; replace hx226_3 := cB_ HB.out hx226_3; replace hx226_4 := cB_ HB.out hx226_4; replace hx226_5 := cB_ HB.out hx226_5; replace hx226_6 := cB_ HB.out hx226_6; replace hx226_7 := cB_ HB.out hx226_7; have HR226_4 := aS_ hi226_4; have HC226_4 := aS_ hl226_4; clear hi226_4 hl226_4; replace p226 := eq_true p226; replace q226 := eq_true q226) | ((with_reducible refine gate_dst (N := 11) rfl ?_); refine box_event ?hg (N := 11) ?hd (cs := #[.int .u8 0, .int .i64 0, .int .i64 0, .float .f64 0, .slice none 0 0, .int .u8 0, .int .i64 0, .int .i64 0]) (t := 71) ?hr ?_; (case hd => rfl); (case hg => rfl); (case hr => first | (go_simp; done) | (go_simp; rfl)); intro gb227 hg w71 hbox hb; have n0_ := aS_ (Kd.R_below (kR HO_5) hb); have n1_ := aS_ (Kd.R_below (kR HO_8) hb); have n2_ := aS_ (Kd.R_below (kR HO223) hb); have n3_ := aS_ (blk_below (g := gb203) (o := .cells #[.int .i64 a0_0, .slice (some ad226) l0_1.length c0_1] 53 (0, 0)) (kb BK203) hb); have n4_ := aS_ (below_step (kB1 HB GE203) hb); have n5_ := aS_ (hbox); have n6_ := aS_ ((kg hg (kB1 HB GE203) : w.heap.size ≤ gb227)); have n7_ := aS_ ((kg hg (kB1 HB GE203) : w.heap.size ≤ gb227)); have n8_ := aS_ ((by rw [hg]; exact Nat.ne_of_lt (blk_lt (g := gb203) (o := .cells #[.int .i64 a0_0, .slice (some ad226) l0_1.length c0_1] 53 (0, 0)) (kb BK203)) : gb203 ≠ gb227)); have n9_ := aS_ ((by rw [hg]; exact Nat.ne_of_gt (blk_lt (g := gb203) (o := .cells #[.int .i64 a0_0, .slice (some ad226) l0_1.length c0_1] 53 (0, 0)) (kb BK203)) : gb227 ≠ gb203)); clear HO_5; clear HO_8; clear HO223; clear BK203; clear HB; have HO_5 := n0_; have HO_8 := n1_; have HO223 := n2_; have BK203 := n3_; have HB := n4_; have BK227 := n5_; have GW227 := n6_; have GE227 := n7_; have NB203_227 := n8_; have NB227_203 := n9_; clear n0_ n1_ n2_ n3_ n4_ n5_ n6_ n7_ n8_ n9_; clear hb hbox hg; have hnb72 := NB227_203.out; have hnc72 := NB203_227.out; have hcz73 := blk8 (w := w71) BK227.out))
                    go_roundg k2
                    case measure => have := HK1.out; have := HK2.out; omega
                    case rel => exact ⟨(y225), (y221), H', ⟨by have := HK1.out; have := HK2.out; omega⟩, ⟨by (with_reducible repeat (first | apply Kd.R_alloc | apply Kd.R_drewN | apply Kd.R_drew)); exact Kd.R_mono (Kd.R_far8 (Kd.R_types HO_5.out BK227.out (by decide)) (fun _ hk => hk.2) _ _ _ _ _ _ _ _) (fun _ hk => hk.1)⟩, ⟨by (with_reducible repeat (first | apply Kd.R_alloc | apply Kd.R_drewN | apply Kd.R_drew)); exact Kd.R_mono (Kd.R_far8 (Kd.R_types HO_8.out BK227.out (by decide)) (fun _ hk => hk.2) _ _ _ _ _ _ _ _) (fun _ hk => trivial)⟩, ⟨by (with_reducible repeat (first | apply Kd.R_alloc | apply Kd.R_drewN | apply Kd.R_drew)); exact Kd.R_mono (Kd.R_far8 (Kd.R_types HO223.out BK227.out (by decide)) (fun _ hk => hk.2) _ _ _ _ _ _ _ _) (fun _ hk => hk.1)⟩, ⟨by (with_reducible repeat (first | refine blk_drewN ?_ _ | refine blk_drew ?_ | refine blk_alloc ?_ _)); refine blk_far8 ?_ NB203_227.out _ _ _ _ _ _ _ _; (with_reducible repeat (first | refine blk_drewN ?_ _ | refine blk_drew ?_ | refine blk_alloc ?_ _)); exact BK203.out⟩, ⟨kB2 HB GE203 GE227⟩⟩
                   ·rw [if_neg c64] at H
                    have c64b0 := beq_eq_false_iff_ne.mpr c64
                    have c64b1 := bne_iff_ne.mpr c64
                    obtain ⟨y228, hy228⟩ : ∃ y_ : List Int, y_ = (([(rd_T71 l0_1 (rd x9_2 (ji51))).f6, (rd_T71 l0_1 (rd x9_2 (ji51))).f7] : List Int)) := ⟨_, rfl⟩
                    (try replace H := bS_ H); rw [← hy228] at H; try dsimp only at H
                    have Ny228 := aS_ hy228
                    clear hy228
                    by_cases c74 : y221.length + y228.length < 17592186044416
                    ·rw [if_pos c74] at H
                     have LMc74 := aS_ c74
                     clear c74
                     obtain ⟨y231, hy231⟩ : ∃ y_ : List Int, y_ = (y221 ++ y228) := ⟨_, rfl⟩
                     (try replace H := bS_ H); rw [← hy231] at H; try dsimp only at H
                     have Ny231 := aS_ hy231
                     clear hy231
                     have H' := aS_ H
                     clear H
                     obtain ⟨Ao75, co75, eo75⟩ := Kd.R_slice HO_9.out
                     subst eo75
                     have p220 : 0 ≤ ((ji51) : Int) := of_decide_eq_true ka
                     have q220 : (ji51) < (x9_2.length : Int) := of_decide_eq_true ka
                     obtain ⟨ad220, e220, hx220_0⟩ := Kd.at_int (Kd.R_reads' HO_9.out).2.2 (ji51) p220 q220
                     cases e220
                     replace p220 := eq_true p220
                     replace q220 := eq_true q220
                     have q76 : ((ji51) : Int) ≤ ((x9_2.length : Int) : Int) := of_decide_eq_true ka
                     obtain ⟨i076, hi076, _, hsz76, _⟩ := info_parts info3
                     have hcut76 := cut_to (P := Try.prog) 54 3 .i64 Try.underlying54 hi076 (some ad220) x9_2.length co75 (ji51) (of_decide_eq_true ka) q76 (Kd.R_reads' HO_9.out).2.1
                     have hr76 := Kd.R_take (m := ((ji51) : Int).toNat) HO_9.out (by omega)
                     have hy76 : y221.length = ((ji51) : Int).toNat := (by rw [Ny221.out, List.length_take]; omega)
                     rw [← Ny221.out] at hr76
                     rw [← hy76] at hr76 hcut76
                     clear hy76 hi076 hsz76 HO_9
                     have HO223 := aS_ hr76
                     clear hr76
                     replace q76 := eq_true q76
                     obtain ⟨Ao77, co77, eo77⟩ := Kd.R_slice HO_8.out
                     subst eo77
                     have p224 : 0 ≤ ((rd x9_2 (ji51)) : Int) := of_decide_eq_true ka
                     have q224 : (rd x9_2 (ji51)) < (x8_2.length : Int) := of_decide_eq_true ka
                     obtain ⟨ad224, e224, hx224_0⟩ := Kd.at_bool (Kd.R_reads' HO_8.out).2.2 (rd x9_2 (ji51)) p224 q224
                     (try rw [← Nbq57.out] at hx224_0)
                     cases e224
                     replace p224 := eq_true p224
                     replace q224 := eq_true q224
                     have p62 : 0 ≤ ((rd x9_2 (ji51)) : Int) := of_decide_eq_true ka
                     have q62 : ((rd x9_2 (ji51)) : Int) < ((x8_2.length : Int) : Int) := of_decide_eq_true ka
                     obtain ⟨go62, co62, eo62, gb62, gl62, cl62, HG62⟩ := Kd.R_form HO_8.out (by omega)
                     (first | cases eo62 | (injection eo62 with ea_ en_ ec_; (first | subst ea_ | (injection ea_ with ea_; subst ea_)); subst ec_; clear en_))
                     have GB62 := aS_ gb62
                     have GG62 := aS_ HG62
                     clear gb62 gl62 HG62
                     (first | simp only [add_plain] at hx224_0 | skip)
                     obtain ⟨hx62_0, hf62_0⟩ := Kd.R_celln false HO_8.out ((rd x9_2 (ji51)) : Int) p62 q62
                     replace p62 := eq_true p62
                     replace q62 := eq_true q62
                     have HP78 := Kd.R_putg HO_8.out ((rd x9_2 (ji51)) : Int) true
                     go_wp2_with (first | ((with_reducible refine gate_store (t := 4) (p := 74) rfl ?_); refine store_event (t := 4) (p := 74) (v := ?vo_w79) (w1 := (wr.setCell ⟨go62, ((rd x9_2 (ji51)) : Int).toNat, none⟩ (.bool true))) ?hg ?ho ?hn ?hr ?_; (case ho => rfl); (case hg => rfl); (case hn => rfl); (case hr => first | (go_simp; done) | (go_simp; rfl)); intro w79 hw; have hg : wr.grownBy w79 (some go62) := (by rw [hw]; exact HP78.2); have hp_ : Kd.R Kd.bool 4 w79 w.heap.size (fun _ => True) (.slice (some ⟨go62, 0, none⟩) x8_2.length co77) y225 := (by rw [hw, Ny225.out]; exact HP78.1); clear HP78; have n0_ := aS_ (Kd.R_over' (v := (.slice (some ⟨go62, 0, none⟩) x8_2.length co77)) (kR HO_5) (Kd.R_typed HO_8.out) (by decide) hg); have n1_ := aS_ (hp_); have n2_ := aS_ (Kd.R_over' (v := (.slice (some ⟨go62, 0, none⟩) x8_2.length co77)) (kR HO223) (Kd.R_typed HO_8.out) (by decide) hg); have n3_ := aS_ (blk_grown (g := gb203) (o := .cells #[.int .i64 a0_0, .slice A0_1 l0_1.length c0_1] 53 (0, 0)) (kb BK203) hg (Kd.R_ne HO_8.out BK203.out (by decide))); have n4_ := aS_ ((by rw [hw]; exact below_set (HB.out) GB62.out : Below w.heap.size w w79)); clear HO_5; clear HO_8; clear HO223; clear BK203; clear HB; have HO_5 := n0_; have HO_8 := n1_; have HO223 := n2_; have BK203 := n3_; have HB := n4_; clear n0_ n1_ n2_ n3_ n4_; clear hg hw hp_; have hcz80 := blk2 (w := w79) BK203.out; have p226 : 0 ≤ ((rd x9_2 (ji51)) : Int) := of_decide_eq_true ka; have q226 : (rd x9_2 (ji51)) < (l0_1.length : Int) := of_decide_eq_true ka; obtain ⟨ad226, A226_4, c226_4, e226, hx226_0, hx226_1, hx226_2, hx226_3, hx226_4, hx226_5, hx226_6, hx226_7, hl226_4, hi226_4⟩ := at_T71 HR0_1.out (rd x9_2 (ji51)) p226 q226; cases e226; replace hx226_0 := cB_ HB.out hx226_0; replace hx226_1 := cB_ HB.out hx226_1; replace hx226_2 := cB_ HB.out hx226_2; replace hx226_3 := cB_ HB.out hx226_3; replace hx226_4 := cB_ HB.out hx226_4; replace hx226_5 := cB_ HB.out hx226_5; replace hx226_6 := cB_ HB.out hx226_6; replace hx226_7 := cB_ HB.out hx226_7; have HR226_4 := aS_ hi226_4; have HC226_4 := aS_ hl226_4; clear hi226_4 hl226_4; replace p226 := eq_true p226; replace q226 := eq_true q226) | ((with_reducible refine gate_dst (N := 11) rfl ?_); refine box_event ?hg (N := 11) ?hd (cs := #[.int .u8 0, .int .i64 0, .int .i64 0, .float .f64 0, .slice none 0 0, .int .u8 0, .int .i64 0, .int .i64 0]) (t := 71) ?hr ?_; (case hd => rfl); (case hg => rfl); (case hr => first | (go_simp; done) | (go_simp; rfl)); intro gb227 hg w81 hbox hb; have n0_ := aS_ (Kd.R_below (kR HO_5) hb); have n1_ := aS_ (Kd.R_below (kR HO_8) hb); have n2_ := aS_ (Kd.R_below (kR HO223) hb); have n3_ := aS_ (blk_below (g := gb203) (o := .cells #[.int .i64 a0_0, .slice (some ad226) l0_1.length c0_1] 53 (0, 0)) (kb BK203) hb); have n4_ := aS_ (below_step (kB1 HB GE203) hb); have n5_ := aS_ (hbox); have n6_ := aS_ ((kg hg (kB1 HB GE203) : w.heap.size ≤ gb227)); have n7_ := aS_ ((kg hg (kB1 HB GE203) : w.heap.size ≤ gb227)); have n8_ := aS_ ((by rw [hg]; exact Nat.ne_of_lt (blk_lt (g := gb203) (o := .cells #[.int .i64 a0_0, .slice (some ad226) l0_1.length c0_1] 53 (0, 0)) (kb BK203)) : gb203 ≠ gb227)); have n9_ := aS_ ((by rw [hg]; exact Nat.ne_of_gt (blk_lt (g := gb203) (o := .cells #[.int .i64 a0_0, .slice (some ad226) l0_1.length c0_1] 53 (0, 0)) (kb BK203)) : gb227 ≠ gb203)); clear HO_5; clear HO_8; clear HO223; clear BK203; clear HB; have HO_5 := n0_; have HO_8 := n1_; have HO223 := n2_; have BK203 := n3_; have HB := n4_; have BK227 := n5_; have GW227 := n6_; have GE227 := n7_; have NB203_227 := n8_; have NB227_203 := n9_; clear n0_ n1_ n2_ n3_ n4_ n5_ n6_ n7_ n8_ n9_; clear hb hbox hg; have hnb82 := NB227_203.out; have hnc82 := NB203_227.out; have hcz83 := blk8 (w := w81) BK227.out) | ((with_reducible refine gate_dst (N := 88) rfl ?_); refine Kd.R_lit (Kd.int .i64) _ 3 ?hg (N := 88) ?hd (xs := ([(rd_T71 l0_1 (rd x9_2 (ji51))).f6, (rd_T71 l0_1 (rd x9_2 (ji51))).f7] : List Int)) (inner := [.int .i64 ((rd_T71 l0_1 (rd x9_2 (ji51))).f6), .int .i64 ((rd_T71 l0_1 (rd x9_2 (ji51))).f7)]) (ok := fun _ => True) (okp := fun _ => True) ?hr ?hp (fun _ hk => hk) trivial (Below.refl _ _) (Nat.le_refl _) (by simp) ?_; (case hd => rfl); (case hg => rfl); (case hr => first | (go_simp; done) | (go_simp; rfl)); (case hp => exact (Reps.one (show Kd.M (Kd.int .i64) _ _ _ ((rd_T71 l0_1 (rd x9_2 (ji51))).f6) [.int .i64 ((rd_T71 l0_1 (rd x9_2 (ji51))).f6)] from rfl) (Reps.one (show Kd.M (Kd.int .i64) _ _ _ ((rd_T71 l0_1 (rd x9_2 (ji51))).f7) [.int .i64 ((rd_T71 l0_1 (rd x9_2 (ji51))).f7)] from rfl) (Reps.none _ _)))); intro v229 w84 ho85 hb hg_ hnew_; clear hg_ hnew_; (first | rw [← Ny228.out] at ho85 | (simp only [Int.reduceToNat] at ho85; rw [← Ny228.out] at ho85)); have n0_ := aS_ (Kd.R_elder' (by (with_reducible repeat (first | apply Kd.R_alloc | apply Kd.R_drewN | apply Kd.R_drew)); exact (Kd.R_mono (Kd.R_far8 (Kd.R_types HO_5.out BK227.out (by decide)) (fun _ hk => hk.2) _ _ _ _ _ _ _ _) (fun _ h_ => h_.1))) (Kd.R_base ho85) hb); have n1_ := aS_ (Kd.R_below (by (with_reducible repeat (first | apply Kd.R_alloc | apply Kd.R_drewN | apply Kd.R_drew)); exact (Kd.R_mono (Kd.R_far8 (Kd.R_types HO_8.out BK227.out (by decide)) (fun _ hk => hk.2) _ _ _ _ _ _ _ _) (fun _ h_ => h_.1))) hb); have n2_ := aS_ (Kd.R_elder' (by (with_reducible repeat (first | apply Kd.R_alloc | apply Kd.R_drewN | apply Kd.R_drew)); exact (Kd.R_mono (Kd.R_far8 (Kd.R_types HO223.out BK227.out (by decide)) (fun _ hk => hk.2) _ _ _ _ _ _ _ _) (fun _ h_ => h_.1))) (Kd.R_base ho85) hb); have n3_ := aS_ (Kd.R_lower (Kd.R_new' (Kd.R_new' ho85 (Kd.R_lt (by (with_reducible repeat (first | apply Kd.R_alloc | apply Kd.R_drewN | apply Kd.R_drew)); exact (Kd.R_mono (Kd.R_far8 (Kd.R_types HO_5.out BK227.out (by decide)) (fun _ hk => hk.2) _ _ _ _ _ _ _ _) (fun _ h_ => h_.1))))) (Kd.R_lt (by (with_reducible repeat (first | apply Kd.R_alloc | apply Kd.R_drewN | apply Kd.R_drew)); exact (Kd.R_mono (Kd.R_far8 (Kd.R_types HO223.out BK227.out (by decide)) (fun _ hk => hk.2) _ _ _ _ _ _ _ _) (fun _ h_ => h_.1))))) (below_size (kB2 HB GE203 GE227))); have n4_ := aS_ (blk_below (g := gb203) (o := .cells #[.int .i64 a0_0, .slice (some ad226) l0_1.length c0_1] 53 (0, 0)) (by (with_reducible repeat (first | refine blk_drewN ?_ _ | refine blk_drew ?_ | refine blk_alloc ?_ _)); refine blk_far8 ?_ NB203_227.out _ _ _ _ _ _ _ _; (with_reducible repeat (first | refine blk_drewN ?_ _ | refine blk_drew ?_ | refine blk_alloc ?_ _)); exact BK203.out) hb); have n5_ := aS_ (blk_below (g := gb227) (o := .cells #[.int .u8 ((rd_T71 l0_1 (rd x9_2 (ji51))).f0), .int .i64 ((rd_T71 l0_1 (rd x9_2 (ji51))).f1), .int .i64 ((rd_T71 l0_1 (rd x9_2 (ji51))).f2), .float .f64 ((rd_T71 l0_1 (rd x9_2 (ji51))).f3), .slice A226_4 ((rd_T71 l0_1 (rd x9_2 (ji51))).f4).length c226_4, .int .u8 ((rd_T71 l0_1 (rd x9_2 (ji51))).f5), .int .i64 ((rd_T71 l0_1 (rd x9_2 (ji51))).f6), .int .i64 ((rd_T71 l0_1 (rd x9_2 (ji51))).f7)] 71 (0, 0)) (by (with_reducible repeat (first | refine blk_drewN ?_ _ | refine blk_drew ?_ | refine blk_alloc ?_ _)); exact blk_put8 (kb BK227) _ _ _ _ _ _ _ _) hb); have n6_ := aS_ (below_step (kB2 HB GE203 GE227) hb); clear HO_5; clear HO_8; clear HO223; clear BK203; clear BK227; clear HB; have HO_5 := n0_; have HO_8 := n1_; have HO223 := n2_; have HO230 := n3_; have BK203 := n4_; have BK227 := n5_; have HB := n6_; clear n0_ n1_ n2_ n3_ n4_ n5_ n6_; clear hb ho85; obtain ⟨Ao87, co87, eo87⟩ := Kd.R_slice HO230.out; subst eo87) | ((with_reducible refine gate_builtin (b := .append) (xs := #[.tmp 83, .tmp 88]) rfl ?_); at_builtin; refine Kd.R_append_rows (Kd.int .i64) (w0 := w) w.heap.size rfl (.tmp 83) (.tmp 88) 54 3 (.int .i64 0) 8 rfl Try.underlying54 info3 rfl (by decide) (by omega) (.slice (some ad220) y221.length co75) y221 y228 _ _ _ (fun k_ => some k_ ≠ (v205 : Value).ownBlock ∧ some k_ ≠ (.slice Ao87 y228.length co87 : Value).ownBlock) (fun _ => False) rfl rfl ?aO ?aR (fun _ _ h => h) (fun _ h => h.elim) ?aF ?aB ?aS ?aL ?_; (case aR => repeat (first | exact (Kd.R_reads' HO230.out).2.2 | (with_reducible refine Kd.C_alloc ?_ _) | (with_reducible refine Kd.C_drewN ?_ _) | (with_reducible refine Kd.C_drew ?_))); (case aB => exact (kB2 HB GE203 GE227)); (case aF => exact (fun k_ hk => ⟨Kd.fresh' (Kd.R_lt (kR HO_5)) k_ hk, Kd.fresh' (Kd.R_lt (kR HO230)) k_ hk⟩)); (case aO => exact (kR HO223)); (case aS => exact (below_size (kB2 HB GE203 GE227))); (case aL => have := LMc74.out; omega); intro v232 w86 ho hb hg hat; rw [← Ny231.out] at ho; have n0_ := aS_ (Kd.R_after (ok := (fun k_ => some k_ ≠ (.slice Ao87 y228.length co87 : Value).ownBlock)) (by (with_reducible repeat (first | apply Kd.R_alloc | apply Kd.R_drewN | apply Kd.R_drew)); exact Kd.R_mono HO_5.out (fun _ hk => ⟨hk.2, hk.1⟩)) hg hat); have n1_ := aS_ (Kd.R_over' (kR HO_8) (Kd.R_typed (kR HO223)) (by decide) hg); have n2_ := aS_ (blk_grown (g := gb203) (o := .cells #[.int .i64 a0_0, .slice (some ad226) l0_1.length c0_1] 53 (0, 0)) (kb BK203) hg (Kd.R_ne HO223.out BK203.out (by decide))); have n3_ := aS_ (blk_grown (g := gb227) (o := .cells #[.int .u8 ((rd_T71 l0_1 (rd x9_2 (ji51))).f0), .int .i64 ((rd_T71 l0_1 (rd x9_2 (ji51))).f1), .int .i64 ((rd_T71 l0_1 (rd x9_2 (ji51))).f2), .float .f64 ((rd_T71 l0_1 (rd x9_2 (ji51))).f3), .slice A226_4 ((rd_T71 l0_1 (rd x9_2 (ji51))).f4).length c226_4, .int .u8 ((rd_T71 l0_1 (rd x9_2 (ji51))).f5), .int .i64 ((rd_T71 l0_1 (rd x9_2 (ji51))).f6), .int .i64 ((rd_T71 l0_1 (rd x9_2 (ji51))).f7)] 71 (0, 0)) (kb BK227) hg (Kd.R_ne HO223.out BK227.out (by decide))); have n4_ := aS_ (Kd.R_after (ok := (fun k_ => some k_ ≠ (v205 : Value).ownBlock)) (by (with_reducible repeat (first | apply Kd.R_alloc | apply Kd.R_drewN | apply Kd.R_drew)); exact Kd.R_mono HO230.out (fun _ hk => ⟨hk.1.2, hk.2⟩)) hg hat); have n5_ := aS_ (hb); have n6_ := aS_ (ho); clear HO_5; clear HO_8; clear BK203; clear BK227; clear HO230; clear HB; clear HO223; have HO_5 := n0_; have HO_8 := n1_; have BK203 := n2_; have BK227 := n3_; have HO230 := n4_; have HB := n5_; have HO233 := n6_; clear n0_ n1_ n2_ n3_ n4_ n5_ n6_; clear ho hb hg hat))
                     go_roundg k2
                     case measure => have := HK1.out; have := HK2.out; omega
                     case rel => exact ⟨(y225), (y231), H', ⟨by have := HK1.out; have := HK2.out; omega⟩, ⟨by (with_reducible repeat (first | apply Kd.R_alloc | apply Kd.R_drewN | apply Kd.R_drew)); exact Kd.R_mono HO_5.out (fun _ hk => hk.2)⟩, ⟨kR HO_8⟩, ⟨by (with_reducible repeat (first | apply Kd.R_alloc | apply Kd.R_drewN | apply Kd.R_drew)); exact Kd.R_mono HO233.out (fun _ hk => hk.1)⟩, ⟨kb BK203⟩, ⟨kB2 HB GE203 GE227⟩⟩
                    ·rw [if_neg c74] at H
                     exact absurd H (by simp)
                  ·rw [if_neg c63] at H
                   exact absurd H (by simp)
                ·rw [if_neg c56] at H
                 exact absurd H (by simp)
               ·rw [if_neg c55] at H
                exact absurd H (by simp)
              ·rw [if_neg c54] at H
               exact absurd H (by simp)
             ·rw [if_neg c53] at H
              exact absurd H (by simp)
            ·rw [if_neg c52] at H
             exact absurd H (by simp)
           ·rw [if_neg c50] at H
            have c50b0 := decide_eq_false c50
            have c50b1 : decide (0 < x9_2.length) = false := decide_eq_false (by omega)
            clear c50
            have H' := aS_ H
            clear H
            obtain ⟨Ao88, co88, eo88⟩ := Kd.R_slice HO_9.out
            subst eo88
            have hcz89 := blk2 (w := wr) BK203.out
            go_wp2
            go_loopg [93] k2 (fun kq v93 w' => ∃ (x93_3 : Int), v93 = .int .i64 x93_3 ∧ Aside0 (thicketref07_Shape.l2 kq x5_1 x8_2 (l0_1.length : Int) x93_3 = some (r1, r2)) ∧ Aside0 (kq ≤ k2) ∧ Aside0 (Kd.R (Kd.int .i64) 3 w' w.heap.size (fun _ => True) v205 x5_1) ∧ Aside0 (Kd.R Kd.bool 4 w' w.heap.size (fun _ => True) v215 x8_2) ∧ Aside0 (w'.heap[gb203]? = some (.cells #[.int .i64 a0_0, (.slice A0_1 l0_1.length c0_1)] 53 (0, 0))) ∧ Aside0 (Below w.heap.size w w'))
            case atStart => exact ⟨(0), kr, H', ⟨Nat.le_refl _⟩, ⟨by (with_reducible repeat (first | apply Kd.R_alloc | apply Kd.R_drewN | apply Kd.R_drew)); exact Kd.R_mono HO_5.out (fun _ hk => trivial)⟩, ⟨kR HO_8⟩, ⟨kb BK203⟩, ⟨kB1 HB GE203⟩⟩
            case round =>
             clear H'
             try clear c1; try clear c2; try clear c2b0; try clear c2b1; try clear c2b2; try clear p2; try clear q2; try clear hx2; try clear hf2; try clear c3; try clear c4; try clear c5; try clear c5b0; try clear c5b1; try clear q5; try clear c6; try clear c6b0; try clear c6b1; try clear p6; try clear q6; try clear hx6; try clear hf6; try clear c7; try clear q7; try clear c8; try clear c12; try clear c12b0; try clear c13; try clear c13b0; try clear c14; try clear c14b0; try clear c16; try clear c17; try clear c17b0; try clear c17b1; try clear c19; try clear c20; try clear p20; try clear q20; try clear hx20; try clear p21; try clear q21; try clear hx21; try clear c22; try clear p22; try clear q22; try clear hx22; try clear c23; try clear c23b0; try clear c24; try clear c24b0; try clear p25; try clear q25; try clear hx25; try clear hf25; try clear c26; try clear c26b0; try clear c27; try clear c27b0; try clear p28; try clear q28; try clear hx28; try clear hf28; try clear c30; try clear c41; try clear c44; try clear c44b0; try clear c44b1; try clear c45; try clear c45b0; try clear c45b1; try clear c50; try clear c50b0; try clear c50b1; try clear c52; try clear c52b0; try clear c53; try clear c53b0; try clear c54; try clear c54b0; try clear c54b1; try clear c55; try clear c55b0; try clear c56; try clear c56b0; try clear q57; try clear c58; try clear q60; try clear p62; try clear q62; try clear hx62; try clear hf62; try clear c63; try clear c63b0; try clear c64; try clear c64b0; try clear c64b1; try clear p64; try clear q66; try clear c72; try clear c74; try clear q76; try clear c82; try clear hcz11; try clear hcz20; try clear hcz22; try clear hcz31; try clear hcz33; try clear hcz37; try clear hcz42; try clear hcz4; try clear hcz70; try clear hcz73; try clear hcz80; try clear hcz83; try clear hcz89; try clear hcz8; try clear hx207_0; try clear hx207_1; try clear hx207_2; try clear hx207_3; try clear hx207_4; try clear hx207_5; try clear hx207_6; try clear hx207_7; try clear hx210_0; try clear hx212_0; try clear hx220_0; try clear hx224_0; try clear hx226_0; try clear hx226_1; try clear hx226_2; try clear hx226_3; try clear hx226_4; try clear hx226_5; try clear hx226_6; try clear hx226_7; try clear hx25_0; try clear hx28_0; try clear hx62_0; try clear p207; try clear p210; try clear p212; try clear p220; try clear p224; try clear p226; try clear q207; try clear q210; try clear q212; try clear q220; try clear q224; try clear q226
             obtain ⟨x93_3, rfl, HA, HK3, HO_5, HO_8, BK203, HB⟩ := hrel
             cases gk with
             | zero => exact absurd HA.out (by simp [thicketref07_Shape.l2])
             | succ k3 =>
              have H := HA.out
              clear HA
              simp only [thicketref07_Shape.l2] at H
              by_cases c90 : x93_3 < (l0_1.length : Int)
              ·rw [if_pos c90] at H
               have c90b0 := decide_eq_true c90
               clear c90
               by_cases c91 : x93_3 = 0
               ·rw [if_pos c91] at H
                have c91b0 := beq_iff_eq.mpr c91
                have c91b1 := bne_eq_false_iff_eq.mpr c91
                clear c91
                by_cases c92 : 0 ≤ x93_3
                ·rw [if_pos c92] at H
                 have c92b0 := decide_eq_true c92
                 clear c92
                 by_cases c93 : x93_3 < (x5_1.length : Int)
                 ·rw [if_pos c93] at H
                  have c93b0 := decide_eq_true c93
                  clear c93
                  by_cases c94 : (rd x5_1 x93_3) = 0
                  ·rw [if_pos c94] at H
                   have c94b0 := beq_iff_eq.mpr c94
                   have c94b1 := bne_eq_false_iff_eq.mpr c94
                   clear c94
                   by_cases c95 : x93_3 > 0
                   ·rw [if_pos c95] at H
                    have c95b0 := decide_eq_true c95
                    clear c95
                    by_cases c96 : (rd x5_1 x93_3) = 1
                    ·rw [if_pos c96] at H
                     have c96b0 := beq_iff_eq.mpr c96
                     have c96b1 := bne_eq_false_iff_eq.mpr c96
                     clear c96
                     by_cases c97 : x93_3 < (x8_2.length : Int)
                     ·rw [if_pos c97] at H
                      have c97b0 := decide_eq_true c97
                      clear c97
                      obtain ⟨bq98, hbq98⟩ : ∃ b_ : Bool, b_ = (rdOf false x8_2 x93_3) := ⟨_, rfl⟩
                      replace H : (if bq98 = true then (thicketref07_Shape.l2 k3 x5_1 x8_2 (l0_1.length : Int) (wrap64 (x93_3 + 1))) else (some (70, x93_3))) = some (r1, r2) := by rw [← hbq98] at H; exact H
                      have Nbq98 := aS_ hbq98
                      clear hbq98
                      by_cases c99 : bq98 = true
                      ·subst c99
                       rw [if_pos rfl] at H
                       have H' := aS_ H
                       clear H
                       obtain ⟨Ao100, co100, eo100⟩ := Kd.R_slice HO_5.out
                       subst eo100
                       have p234 : 0 ≤ (x93_3 : Int) := of_decide_eq_true ka
                       have q234 : x93_3 < (x5_1.length : Int) := of_decide_eq_true ka
                       obtain ⟨ad234, e234, hx234_0⟩ := Kd.at_int (Kd.R_reads' HO_5.out).2.2 x93_3 p234 q234
                       cases e234
                       replace p234 := eq_true p234
                       replace q234 := eq_true q234
                       have p235 : 0 ≤ (x93_3 : Int) := of_decide_eq_true ka
                       have q235 : x93_3 < (x5_1.length : Int) := of_decide_eq_true ka
                       obtain ⟨ad235, e235, hx235_0⟩ := Kd.at_int (Kd.R_reads' HO_5.out).2.2 x93_3 p235 q235
                       obtain rfl : ad234 = ad235 := (by injection e235)
                       replace p235 := eq_true p235
                       replace q235 := eq_true q235
                       obtain ⟨Ao101, co101, eo101⟩ := Kd.R_slice HO_8.out
                       subst eo101
                       have p236 : 0 ≤ (x93_3 : Int) := of_decide_eq_true ka
                       have q236 : x93_3 < (x8_2.length : Int) := of_decide_eq_true ka
                       obtain ⟨ad236, e236, hx236_0⟩ := Kd.at_bool (Kd.R_reads' HO_8.out).2.2 x93_3 p236 q236
                       (try rw [← Nbq98.out] at hx236_0)
                       cases e236
                       replace p236 := eq_true p236
                       replace q236 := eq_true q236
                       go_wp2
                       go_roundg k3
                       case measure => have := HK1.out; have := HK2.out; have := HK3.out; omega
                       case rel => exact ⟨(wrap64 (x93_3 + 1)), kr, H', ⟨by have := HK1.out; have := HK2.out; have := HK3.out; omega⟩, ⟨kR HO_5⟩, ⟨kR HO_8⟩, ⟨kb BK203⟩, ⟨kB1 HB GE203⟩⟩
                      ·replace c99 := Bool.eq_false_iff.mpr c99
                       subst c99
                       rw [if_neg (show ¬ (false = true) by decide)] at H
                       simp only [Option.some.injEq, Prod.mk.injEq] at H
                       obtain ⟨rfl, rfl⟩ := H
                       obtain ⟨Ao102, co102, eo102⟩ := Kd.R_slice HO_5.out
                       subst eo102
                       have p234 : 0 ≤ (x93_3 : Int) := of_decide_eq_true ka
                       have q234 : x93_3 < (x5_1.length : Int) := of_decide_eq_true ka
                       obtain ⟨ad234, e234, hx234_0⟩ := Kd.at_int (Kd.R_reads' HO_5.out).2.2 x93_3 p234 q234
                       cases e234
                       replace p234 := eq_true p234
                       replace q234 := eq_true q234
                       have p235 : 0 ≤ (x93_3 : Int) := of_decide_eq_true ka
                       have q235 : x93_3 < (x5_1.length : Int) := of_decide_eq_true ka
                       obtain ⟨ad235, e235, hx235_0⟩ := Kd.at_int (Kd.R_reads' HO_5.out).2.2 x93_3 p235 q235
                       obtain rfl : ad234 = ad235 := (by injection e235)
                       replace p235 := eq_true p235
                       replace q235 := eq_true q235
                       obtain ⟨Ao103, co103, eo103⟩ := Kd.R_slice HO_8.out
                       subst eo103
                       have p236 : 0 ≤ (x93_3 : Int) := of_decide_eq_true ka
                       have q236 : x93_3 < (x8_2.length : Int) := of_decide_eq_true ka
                       obtain ⟨ad236, e236, hx236_0⟩ := Kd.at_bool (Kd.R_reads' HO_8.out).2.2 x93_3 p236 q236
                       (try rw [← Nbq98.out] at hx236_0)
                       cases e236
                       replace p236 := eq_true p236
                       replace q236 := eq_true q236
                       go_wp2
                       go_ret2
                       exact ⟨by first | rfl | (simp [errW_none, errW_some] <;> rfl) | (simp [*, errW_none, errW_some] <;> rfl), kB1 HB GE203⟩
                     ·rw [if_neg c97] at H
                      exact absurd H (by simp)
                    ·rw [if_neg c96] at H
                     have c96b0 := beq_eq_false_iff_ne.mpr c96
                     have c96b1 := bne_iff_ne.mpr c96
                     simp only [Option.some.injEq, Prod.mk.injEq] at H
                     obtain ⟨rfl, rfl⟩ := H
                     obtain ⟨Ao104, co104, eo104⟩ := Kd.R_slice HO_5.out
                     subst eo104
                     have p234 : 0 ≤ (x93_3 : Int) := of_decide_eq_true ka
                     have q234 : x93_3 < (x5_1.length : Int) := of_decide_eq_true ka
                     obtain ⟨ad234, e234, hx234_0⟩ := Kd.at_int (Kd.R_reads' HO_5.out).2.2 x93_3 p234 q234
                     cases e234
                     replace p234 := eq_true p234
                     replace q234 := eq_true q234
                     have p235 : 0 ≤ (x93_3 : Int) := of_decide_eq_true ka
                     have q235 : x93_3 < (x5_1.length : Int) := of_decide_eq_true ka
                     obtain ⟨ad235, e235, hx235_0⟩ := Kd.at_int (Kd.R_reads' HO_5.out).2.2 x93_3 p235 q235
                     obtain rfl : ad234 = ad235 := (by injection e235)
                     replace p235 := eq_true p235
                     replace q235 := eq_true q235
                     go_wp2
                     go_ret2
                     exact ⟨by first | rfl | (simp [errW_none, errW_some] <;> rfl) | (simp [*, errW_none, errW_some] <;> rfl), kB1 HB GE203⟩
                   ·rw [if_neg c95] at H
                    have c95b0 := decide_eq_false c95
                    clear c95
                    by_cases c105 : x93_3 < (x8_2.length : Int)
                    ·rw [if_pos c105] at H
                     have c105b0 := decide_eq_true c105
                     clear c105
                     obtain ⟨bq106, hbq106⟩ : ∃ b_ : Bool, b_ = (rdOf false x8_2 x93_3) := ⟨_, rfl⟩
                     replace H : (if bq106 = true then (thicketref07_Shape.l2 k3 x5_1 x8_2 (l0_1.length : Int) (wrap64 (x93_3 + 1))) else (some (70, x93_3))) = some (r1, r2) := by rw [← hbq106] at H; exact H
                     have Nbq106 := aS_ hbq106
                     clear hbq106
                     by_cases c107 : bq106 = true
                     ·subst c107
                      rw [if_pos rfl] at H
                      have H' := aS_ H
                      clear H
                      obtain ⟨Ao108, co108, eo108⟩ := Kd.R_slice HO_5.out
                      subst eo108
                      have p234 : 0 ≤ (x93_3 : Int) := of_decide_eq_true ka
                      have q234 : x93_3 < (x5_1.length : Int) := of_decide_eq_true ka
                      obtain ⟨ad234, e234, hx234_0⟩ := Kd.at_int (Kd.R_reads' HO_5.out).2.2 x93_3 p234 q234
                      cases e234
                      replace p234 := eq_true p234
                      replace q234 := eq_true q234
                      obtain ⟨Ao109, co109, eo109⟩ := Kd.R_slice HO_8.out
                      subst eo109
                      have p237 : 0 ≤ (x93_3 : Int) := of_decide_eq_true ka
                      have q237 : x93_3 < (x8_2.length : Int) := of_decide_eq_true ka
                      obtain ⟨ad237, e237, hx237_0⟩ := Kd.at_bool (Kd.R_reads' HO_8.out).2.2 x93_3 p237 q237
                      (try rw [← Nbq106.out] at hx237_0)
                      cases e237
                      replace p237 := eq_true p237
                      replace q237 := eq_true q237
                      go_wp2
                      go_roundg k3
                      case measure => have := HK1.out; have := HK2.out; have := HK3.out; omega
                      case rel => exact ⟨(wrap64 (x93_3 + 1)), kr, H', ⟨by have := HK1.out; have := HK2.out; have := HK3.out; omega⟩, ⟨kR HO_5⟩, ⟨kR HO_8⟩, ⟨kb BK203⟩, ⟨kB1 HB GE203⟩⟩
                     ·replace c107 := Bool.eq_false_iff.mpr c107
                      subst c107
                      rw [if_neg (show ¬ (false = true) by decide)] at H
                      simp only [Option.some.injEq, Prod.mk.injEq] at H
                      obtain ⟨rfl, rfl⟩ := H
                      obtain ⟨Ao110, co110, eo110⟩ := Kd.R_slice HO_5.out
                      subst eo110
                      have p234 : 0 ≤ (x93_3 : Int) := of_decide_eq_true ka
                      have q234 : x93_3 < (x5_1.length : Int) := of_decide_eq_true ka
                      obtain ⟨ad234, e234, hx234_0⟩ := Kd.at_int (Kd.R_reads' HO_5.out).2.2 x93_3 p234 q234
                      cases e234
                      replace p234 := eq_true p234
                      replace q234 := eq_true q234
                      obtain ⟨Ao111, co111, eo111⟩ := Kd.R_slice HO_8.out
                      subst eo111
                      have p237 : 0 ≤ (x93_3 : Int) := of_decide_eq_true ka
                      have q237 : x93_3 < (x8_2.length : Int) := of_decide_eq_true ka
                      obtain ⟨ad237, e237, hx237_0⟩ := Kd.at_bool (Kd.R_reads' HO_8.out).2.2 x93_3 p237 q237
                      (try rw [← Nbq106.out] at hx237_0)
                      cases e237
                      replace p237 := eq_true p237
                      replace q237 := eq_true q237
                      go_wp2
                      go_ret2
                      exact ⟨by first | rfl | (simp [errW_none, errW_some] <;> rfl) | (simp [*, errW_none, errW_some] <;> rfl), kB1 HB GE203⟩
                    ·rw [if_neg c105] at H
                     exact absurd H (by simp)
                  ·rw [if_neg c94] at H
                   have c94b0 := beq_eq_false_iff_ne.mpr c94
                   have c94b1 := bne_iff_ne.mpr c94
                   simp only [Option.some.injEq, Prod.mk.injEq] at H
                   obtain ⟨rfl, rfl⟩ := H
                   obtain ⟨Ao112, co112, eo112⟩ := Kd.R_slice HO_5.out
                   subst eo112
                   have p234 : 0 ≤ (x93_3 : Int) := of_decide_eq_true ka
                   have q234 : x93_3 < (x5_1.length : Int) := of_decide_eq_true ka
                   obtain ⟨ad234, e234, hx234_0⟩ := Kd.at_int (Kd.R_reads' HO_5.out).2.2 x93_3 p234 q234
                   cases e234
                   replace p234 := eq_true p234
                   replace q234 := eq_true q234
                   go_wp2
                   go_ret2
                   exact ⟨by first | rfl | (simp [errW_none, errW_some] <;> rfl) | (simp [*, errW_none, errW_some] <;> rfl), kB1 HB GE203⟩
                 ·rw [if_neg c93] at H
                  exact absurd H (by simp)
                ·rw [if_neg c92] at H
                 exact absurd H (by simp)
               ·rw [if_neg c91] at H
                have c91b0 := beq_eq_false_iff_ne.mpr c91
                have c91b1 := bne_iff_ne.mpr c91
                by_cases c113 : x93_3 > 0
                ·rw [if_pos c113] at H
                 have c113b0 := decide_eq_true c113
                 clear c113
                 by_cases c114 : 0 ≤ x93_3
                 ·rw [if_pos c114] at H
                  have c114b0 := decide_eq_true c114
                  clear c114
                  by_cases c115 : x93_3 < (x5_1.length : Int)
                  ·rw [if_pos c115] at H
                   have c115b0 := decide_eq_true c115
                   clear c115
                   by_cases c116 : (rd x5_1 x93_3) = 1
                   ·rw [if_pos c116] at H
                    have c116b0 := beq_iff_eq.mpr c116
                    have c116b1 := bne_eq_false_iff_eq.mpr c116
                    clear c116
                    by_cases c117 : x93_3 < (x8_2.length : Int)
                    ·rw [if_pos c117] at H
                     have c117b0 := decide_eq_true c117
                     clear c117
                     obtain ⟨bq118, hbq118⟩ : ∃ b_ : Bool, b_ = (rdOf false x8_2 x93_3) := ⟨_, rfl⟩
                     replace H : (if bq118 = true then (thicketref07_Shape.l2 k3 x5_1 x8_2 (l0_1.length : Int) (wrap64 (x93_3 + 1))) else (some (70, x93_3))) = some (r1, r2) := by rw [← hbq118] at H; exact H
                     have Nbq118 := aS_ hbq118
                     clear hbq118
                     by_cases c119 : bq118 = true
                     ·subst c119
                      rw [if_pos rfl] at H
                      have H' := aS_ H
                      clear H
                      obtain ⟨Ao120, co120, eo120⟩ := Kd.R_slice HO_5.out
                      subst eo120
                      have p238 : 0 ≤ (x93_3 : Int) := of_decide_eq_true ka
                      have q238 : x93_3 < (x5_1.length : Int) := of_decide_eq_true ka
                      obtain ⟨ad238, e238, hx238_0⟩ := Kd.at_int (Kd.R_reads' HO_5.out).2.2 x93_3 p238 q238
                      cases e238
                      replace p238 := eq_true p238
                      replace q238 := eq_true q238
                      obtain ⟨Ao121, co121, eo121⟩ := Kd.R_slice HO_8.out
                      subst eo121
                      have p239 : 0 ≤ (x93_3 : Int) := of_decide_eq_true ka
                      have q239 : x93_3 < (x8_2.length : Int) := of_decide_eq_true ka
                      obtain ⟨ad239, e239, hx239_0⟩ := Kd.at_bool (Kd.R_reads' HO_8.out).2.2 x93_3 p239 q239
                      (try rw [← Nbq118.out] at hx239_0)
                      cases e239
                      replace p239 := eq_true p239
                      replace q239 := eq_true q239
                      go_wp2
                      go_roundg k3
                      case measure => have := HK1.out; have := HK2.out; have := HK3.out; omega
                      case rel => exact ⟨(wrap64 (x93_3 + 1)), kr, H', ⟨by have := HK1.out; have := HK2.out; have := HK3.out; omega⟩, ⟨kR HO_5⟩, ⟨kR HO_8⟩, ⟨kb BK203⟩, ⟨kB1 HB GE203⟩⟩
                     ·replace c119 := Bool.eq_false_iff.mpr c119
                      subst c119
                      rw [if_neg (show ¬ (false = true) by decide)] at H
                      simp only [Option.some.injEq, Prod.mk.injEq] at H
                      obtain ⟨rfl, rfl⟩ := H
                      obtain ⟨Ao122, co122, eo122⟩ := Kd.R_slice HO_5.out
                      subst eo122
                      have p238 : 0 ≤ (x93_3 : Int) := of_decide_eq_true ka
                      have q238 : x93_3 < (x5_1.length : Int) := of_decide_eq_true ka
                      obtain ⟨ad238, e238, hx238_0⟩ := Kd.at_int (Kd.R_reads' HO_5.out).2.2 x93_3 p238 q238
                      cases e238
                      replace p238 := eq_true p238
                      replace q238 := eq_true q238
                      obtain ⟨Ao123, co123, eo123⟩ := Kd.R_slice HO_8.out
                      subst eo123
                      have p239 : 0 ≤ (x93_3 : Int) := of_decide_eq_true ka
                      have q239 : x93_3 < (x8_2.length : Int) := of_decide_eq_true ka
                      obtain ⟨ad239, e239, hx239_0⟩ := Kd.at_bool (Kd.R_reads' HO_8.out).2.2 x93_3 p239 q239
                      (try rw [← Nbq118.out] at hx239_0)
                      cases e239
                      replace p239 := eq_true p239
                      replace q239 := eq_true q239
                      go_wp2
                      go_ret2
                      exact ⟨by first | rfl | (simp [errW_none, errW_some] <;> rfl) | (simp [*, errW_none, errW_some] <;> rfl), kB1 HB GE203⟩
                    ·rw [if_neg c117] at H
                     exact absurd H (by simp)
                   ·rw [if_neg c116] at H
                    have c116b0 := beq_eq_false_iff_ne.mpr c116
                    have c116b1 := bne_iff_ne.mpr c116
                    simp only [Option.some.injEq, Prod.mk.injEq] at H
                    obtain ⟨rfl, rfl⟩ := H
                    obtain ⟨Ao124, co124, eo124⟩ := Kd.R_slice HO_5.out
                    subst eo124
                    have p238 : 0 ≤ (x93_3 : Int) := of_decide_eq_true ka
                    have q238 : x93_3 < (x5_1.length : Int) := of_decide_eq_true ka
                    obtain ⟨ad238, e238, hx238_0⟩ := Kd.at_int (Kd.R_reads' HO_5.out).2.2 x93_3 p238 q238
                    cases e238
                    replace p238 := eq_true p238
                    replace q238 := eq_true q238
                    go_wp2
                    go_ret2
                    exact ⟨by first | rfl | (simp [errW_none, errW_some] <;> rfl) | (simp [*, errW_none, errW_some] <;> rfl), kB1 HB GE203⟩
                  ·rw [if_neg c115] at H
                   exact absurd H (by simp)
                 ·rw [if_neg c114] at H
                  exact absurd H (by simp)
                ·rw [if_neg c113] at H
                 have c113b0 := decide_eq_false c113
                 clear c113
                 by_cases c125 : 0 ≤ x93_3
                 ·rw [if_pos c125] at H
                  have c125b0 := decide_eq_true c125
                  clear c125
                  by_cases c126 : x93_3 < (x8_2.length : Int)
                  ·rw [if_pos c126] at H
                   have c126b0 := decide_eq_true c126
                   clear c126
                   obtain ⟨bq127, hbq127⟩ : ∃ b_ : Bool, b_ = (rdOf false x8_2 x93_3) := ⟨_, rfl⟩
                   replace H : (if bq127 = true then (thicketref07_Shape.l2 k3 x5_1 x8_2 (l0_1.length : Int) (wrap64 (x93_3 + 1))) else (some (70, x93_3))) = some (r1, r2) := by rw [← hbq127] at H; exact H
                   have Nbq127 := aS_ hbq127
                   clear hbq127
                   by_cases c128 : bq127 = true
                   ·subst c128
                    rw [if_pos rfl] at H
                    have H' := aS_ H
                    clear H
                    obtain ⟨Ao129, co129, eo129⟩ := Kd.R_slice HO_8.out
                    subst eo129
                    have p240 : 0 ≤ (x93_3 : Int) := of_decide_eq_true ka
                    have q240 : x93_3 < (x8_2.length : Int) := of_decide_eq_true ka
                    obtain ⟨ad240, e240, hx240_0⟩ := Kd.at_bool (Kd.R_reads' HO_8.out).2.2 x93_3 p240 q240
                    (try rw [← Nbq127.out] at hx240_0)
                    cases e240
                    replace p240 := eq_true p240
                    replace q240 := eq_true q240
                    go_wp2
                    go_roundg k3
                    case measure => have := HK1.out; have := HK2.out; have := HK3.out; omega
                    case rel => exact ⟨(wrap64 (x93_3 + 1)), kr, H', ⟨by have := HK1.out; have := HK2.out; have := HK3.out; omega⟩, ⟨kR HO_5⟩, ⟨kR HO_8⟩, ⟨kb BK203⟩, ⟨kB1 HB GE203⟩⟩
                   ·replace c128 := Bool.eq_false_iff.mpr c128
                    subst c128
                    rw [if_neg (show ¬ (false = true) by decide)] at H
                    simp only [Option.some.injEq, Prod.mk.injEq] at H
                    obtain ⟨rfl, rfl⟩ := H
                    obtain ⟨Ao130, co130, eo130⟩ := Kd.R_slice HO_8.out
                    subst eo130
                    have p240 : 0 ≤ (x93_3 : Int) := of_decide_eq_true ka
                    have q240 : x93_3 < (x8_2.length : Int) := of_decide_eq_true ka
                    obtain ⟨ad240, e240, hx240_0⟩ := Kd.at_bool (Kd.R_reads' HO_8.out).2.2 x93_3 p240 q240
                    (try rw [← Nbq127.out] at hx240_0)
                    cases e240
                    replace p240 := eq_true p240
                    replace q240 := eq_true q240
                    go_wp2
                    go_ret2
                    exact ⟨by first | rfl | (simp [errW_none, errW_some] <;> rfl) | (simp [*, errW_none, errW_some] <;> rfl), kB1 HB GE203⟩
                  ·rw [if_neg c126] at H
                   exact absurd H (by simp)
                 ·rw [if_neg c125] at H
                  exact absurd H (by simp)
              ·rw [if_neg c90] at H
               have c90b0 := decide_eq_false c90
               clear c90
               simp only [Option.some.injEq, Prod.mk.injEq] at H
               obtain ⟨rfl, rfl⟩ := H
               go_wp2
               go_ret2
               exact ⟨by first | rfl | (simp [errW_none, errW_some] <;> rfl) | (simp [*, errW_none, errW_some] <;> rfl), kB1 HB GE203⟩
        ·rw [if_neg c45] at H
         exact absurd H (by simp)
       ·rw [if_neg c44] at H
        exact absurd H (by simp)
   ·rw [if_neg c6] at H
    exact absurd H (by simp)
  ·rw [if_neg c5] at H
   exact absurd H (by simp)
end Go.Proofs.Ytfmjgjfbnilpoaa.FAll
