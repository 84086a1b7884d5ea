-- written by fprint.sh, a program of ours over the kit's print: not by hand
import Derived.Test.YtfmjgjfbnilpoaaZq
import Derived.Test.YtfmjgjfbnilpoaaEi
import Derived.Test.YtfmjgjfbnilpoaaFAllx0
import Derived.Test.YtfmjgjfbnilpoaaFAllx1
namespace Go.Proofs.Ytfmjgjfbnilpoaa.FAll
open Go.RowKit YtfmjgjfbnilpoaaW.PrintWords YtfmjgjfbnilpoaaW.PrintLast YtfmjgjfbnilpoaaW.PrintMore
attribute [local go_sem] feq_walk fne_walk flt_walk fle_walk fgt_walk fge_walk fint_walk fstore_walk run_f64bits run_f64from max2_int min2_int max_two min_two max_three min_three max_four min_four   -- for this text's walks alone
set_option linter.unusedVariables false
set_option linter.unusedSimpArgs false
/-! ### trees_Shape: function 67 -/
mutual
def trees_Shape.l0 : Nat → List Int → List (S71) → Int → Int → Int → List (S71) → Option (Int × Int)
 | 0, _, _, _, _, _, _ => none
 | k + 1, x4, x22, x23, x24, x140000, x140001 => if x24 < x23 then (if 0 ≤ x24 then (if x24 < (x22.length : Int) then ((trees_right.f k ((rd_T71 x22 x24).f0) ((rd_T71 x22 x24).f1) ((rd_T71 x22 x24).f2) ((rd_T71 x22 x24).f3) ((rd_T71 x22 x24).f4) ((rd_T71 x22 x24).f5) ((rd_T71 x22 x24).f6) ((rd_T71 x22 x24).f7) (x140001.length : Int)).bind fun t145 => (if t145 = true then ((trees_inner.f ((rd_T71 x22 x24).f0) ((rd_T71 x22 x24).f1) ((rd_T71 x22 x24).f2) ((rd_T71 x22 x24).f3) ((rd_T71 x22 x24).f4) ((rd_T71 x22 x24).f5) ((rd_T71 x22 x24).f6) ((rd_T71 x22 x24).f7)).bind fun t146 => (if t146 = true then (if 0 ≤ ((rd_T71 x22 x24).f6) then (if ((rd_T71 x22 x24).f6) < (x4.length : Int) then ((some (x4.set (((rd_T71 x22 x24).f6) : Int).toNat (wrap64 ((rd x4 ((rd_T71 x22 x24).f6)) + 1)) : List Int)).bind fun y148 => (if 0 ≤ ((rd_T71 x22 x24).f7) then (if ((rd_T71 x22 x24).f7) < (x4.length : Int) then (trees_Shape.l0 k (y148.set (((rd_T71 x22 x24).f7) : Int).toNat (wrap64 ((rd y148 ((rd_T71 x22 x24).f7)) + 1))) x22 x23 (wrap64 (x24 + 1)) x140000 x140001) else (none)) else (none))) else (none)) else (none)) else (trees_Shape.l0 k x4 x22 x23 (wrap64 (x24 + 1)) x140000 x140001))) else (some (71, x24)))) else (none)) else (none)) else (if 0 ≤ (x140001.length : Int) then (if ((x140001.length : Int) : Int).toNat ≤ 281474976710656 then (trees_Shape.l1 k x4 (List.replicate ((x140001.length : Int) : Int).toNat false) (([0] : List Int)) x140000 x140001) else (none)) else (none))
def trees_Shape.l1 : Nat → List Int → List Bool → List Int → Int → List (S71) → Option (Int × Int)
 | 0, _, _, _, _, _ => none
 | k + 1, x4, x7, x8, x140000, x140001 => if (x8.length : Int) > 0 then (if 0 ≤ (wrap64 ((x8.length : Int) - 1)) then (if (wrap64 ((x8.length : Int) - 1)) < (x8.length : Int) then (if (wrap64 ((x8.length : Int) - 1)) ≤ (x8.length : Int) then ((some (x8.take ((wrap64 ((x8.length : Int) - 1)) : Int).toNat : List Int)).bind fun y158 => (if 0 ≤ (rd x8 (wrap64 ((x8.length : Int) - 1))) then (if (rd x8 (wrap64 ((x8.length : Int) - 1))) < (x7.length : Int) then (if rdOf false x7 (rd x8 (wrap64 ((x8.length : Int) - 1))) = true then (trees_Shape.l1 k x4 x7 y158 x140000 x140001) else ((some (x7.set ((rd x8 (wrap64 ((x8.length : Int) - 1))) : Int).toNat true : List Bool)).bind fun y162 => (if (rd x8 (wrap64 ((x8.length : Int) - 1))) < (x140001.length : Int) then ((trees_inner.f ((rd_T71 x140001 (rd x8 (wrap64 ((x8.length : Int) - 1)))).f0) ((rd_T71 x140001 (rd x8 (wrap64 ((x8.length : Int) - 1)))).f1) ((rd_T71 x140001 (rd x8 (wrap64 ((x8.length : Int) - 1)))).f2) ((rd_T71 x140001 (rd x8 (wrap64 ((x8.length : Int) - 1)))).f3) ((rd_T71 x140001 (rd x8 (wrap64 ((x8.length : Int) - 1)))).f4) ((rd_T71 x140001 (rd x8 (wrap64 ((x8.length : Int) - 1)))).f5) ((rd_T71 x140001 (rd x8 (wrap64 ((x8.length : Int) - 1)))).f6) ((rd_T71 x140001 (rd x8 (wrap64 ((x8.length : Int) - 1)))).f7)).bind fun t165 => (if t165 = true then ((some (([(rd_T71 x140001 (rd x8 (wrap64 ((x8.length : Int) - 1)))).f6, (rd_T71 x140001 (rd x8 (wrap64 ((x8.length : Int) - 1)))).f7] : List Int) : List Int)).bind fun y166 => (if y158.length + y166.length < 17592186044416 then (trees_Shape.l1 k x4 y162 (y158 ++ y166) x140000 x140001) else (none))) else (trees_Shape.l1 k x4 y162 y158 x140000 x140001))) else (none)))) else (none)) else (none))) else (none)) else (none)) else (none)) else (trees_Shape.l2 k x4 x7 (x140001.length : Int) 0)
def trees_Shape.l2 : Nat → List Int → List Bool → Int → Int → Option (Int × Int)
 | 0, _, _, _, _ => none
 | k + 1, x4, x7, x95, x96 => if x96 < x95 then (if 0 ≤ x96 then (if x96 < (x4.length : Int) then (if (rd x4 x96) = (mn x96 1) then (if x96 < (x7.length : Int) then (if rdOf false x7 x96 = true then (trees_Shape.l2 k x4 x7 x95 (wrap64 (x96 + 1))) else (some (70, x96))) else (none)) else (some (70, x96))) else (none)) else (none)) else (some (0, 0))
end
def trees_Shape.f (k : Nat) (a0_0 : Int) (l0_1 : List (S71)) : Option (Int × Int) := if (l0_1.length : Int) = 0 then (some (70, 0)) else (if 0 ≤ (l0_1.length : Int) then (if ((l0_1.length : Int) : Int).toNat ≤ 35184372088832 then (trees_Shape.l0 k (List.replicate ((l0_1.length : Int) : Int).toNat 0) l0_1 (l0_1.length : Int) 0 a0_0 l0_1) else (none)) else (none))
theorem trees_Shape.mono_l : ∀ k, (∀ y0 y1 y2 y3 y4 y5, LeO (trees_Shape.l0 k y0 y1 y2 y3 y4 y5) (trees_Shape.l0 (k + 1) y0 y1 y2 y3 y4 y5)) ∧ (∀ y0 y1 y2 y3 y4, LeO (trees_Shape.l1 k y0 y1 y2 y3 y4) (trees_Shape.l1 (k + 1) y0 y1 y2 y3 y4)) ∧ (∀ y0 y1 y2 y3, LeO (trees_Shape.l2 k y0 y1 y2 y3) (trees_Shape.l2 (k + 1) y0 y1 y2 y3))
 | 0 => ⟨fun _ _ _ _ _ _ r h => by simp [trees_Shape.l0] at h, fun _ _ _ _ _ r h => by simp [trees_Shape.l1] at h, fun _ _ _ _ r h => by simp [trees_Shape.l2] at h⟩
 | k + 1 => by
  obtain ⟨ih0, ih1, ih2⟩ := trees_Shape.mono_l k
  refine ⟨?_, ?_, ?_⟩
  ·intro y0 y1 y2 y3 y4 y5
   unfold trees_Shape.l0
   repeat' first
   | (with_reducible exact ih0 _ _ _ _ _ _)
   | (with_reducible exact ih1 _ _ _ _ _)
   | (with_reducible exact ih2 _ _ _ _)
   | (with_reducible exact trees_right.mono _ _ _ _ _ _ _ _ _ _)
   | (with_reducible exact LeO.refl _)
   | (with_reducible exact LeO.none _)
   | (with_reducible refine LeO.ite ?_ ?_)
   | (with_reducible refine LeO.bind ?_ (fun _ => ?_))
  ·intro y0 y1 y2 y3 y4
   unfold trees_Shape.l1
   repeat' first
   | (with_reducible exact ih0 _ _ _ _ _ _)
   | (with_reducible exact ih1 _ _ _ _ _)
   | (with_reducible exact ih2 _ _ _ _)
   | (with_reducible exact trees_right.mono _ _ _ _ _ _ _ _ _ _)
   | (with_reducible exact LeO.refl _)
   | (with_reducible exact LeO.none _)
   | (with_reducible refine LeO.ite ?_ ?_)
   | (with_reducible refine LeO.bind ?_ (fun _ => ?_))
  ·intro y0 y1 y2 y3
   unfold trees_Shape.l2
   repeat' first
   | (with_reducible exact ih0 _ _ _ _ _ _)
   | (with_reducible exact ih1 _ _ _ _ _)
   | (with_reducible exact ih2 _ _ _ _)
   | (with_reducible exact trees_right.mono _ _ _ _ _ _ _ _ _ _)
   | (with_reducible exact LeO.refl _)
   | (with_reducible exact LeO.none _)
   | (with_reducible refine LeO.ite ?_ ?_)
   | (with_reducible refine LeO.bind ?_ (fun _ => ?_))
theorem trees_Shape.mono : ∀ a0 a1 k, LeO (trees_Shape.f k a0 a1) (trees_Shape.f (k + 1) a0 a1) := by
 intro a0 a1 k
 obtain ⟨ih0, ih1, ih2⟩ := trees_Shape.mono_l k
 unfold trees_Shape.f
 repeat' first
   | (with_reducible exact ih0 _ _ _ _ _ _)
   | (with_reducible exact ih1 _ _ _ _ _)
   | (with_reducible exact ih2 _ _ _ _)
   | (with_reducible exact trees_right.mono _ _ _ _ _ _ _ _ _ _)
   | (with_reducible exact LeO.refl _)
   | (with_reducible exact LeO.none _)
   | (with_reducible refine LeO.ite ?_ ?_)
   | (with_reducible refine LeO.bind ?_ (fun _ => ?_))
set_option maxHeartbeats 8000000 in
set_option maxRecDepth 100000 in
theorem trees_Shape.calls (k : Nat) (a0_0 : Int) (A0_1 : Option Addr) (c0_1 : Nat) (l0_1 : List (S71)) (r1 : Int) (r2 : Int) (w : World) (hr0_1 : Kd.C k71 w A0_1 l0_1.length l0_1) (hc0_1 : l0_1.length ≤ c0_1) (h : trees_Shape.f k a0_0 l0_1 = some (r1, r2)) :
  Calls Try.prog 67 #[.agg #[.int .i64 a0_0, .slice A0_1 l0_1.length c0_1]] w fun e w' => e = .returned (.tuple #[.int .i64 r1, .int .i64 r2]) ∧ Below w.heap.size w w' := by
 have hu53 := Try.underlying53
 have hu71 := Try.underlying71
 have HR0_1 := aS_ hr0_1
 have HC0_1 := aS_ hc0_1
 clear hr0_1 hc0_1
 have HB := aS_ (Below.refl w.heap.size w)
 have H : (if (l0_1.length : Int) = 0 then (some (70, 0)) else (if 0 ≤ (l0_1.length : Int) then (if ((l0_1.length : Int) : Int).toNat ≤ 35184372088832 then (trees_Shape.l0 k (List.replicate ((l0_1.length : Int) : Int).toNat 0) l0_1 (l0_1.length : Int) 0 a0_0 l0_1) else (none)) else (none))) = some (r1, r2) := h
 clear h
 by_cases c2 : (l0_1.length : Int) = 0
 ·rw [if_pos c2] at H
  have c2b0 := beq_iff_eq.mpr c2
  have c2b1 := bne_eq_false_iff_eq.mpr c2
  clear c2
  simp only [Option.some.injEq, Prod.mk.injEq] at H
  obtain ⟨rfl, rfl⟩ := H
  go_enter Try.func67, Try.ntmps67
  go_wp2_with (first | ((with_reducible refine gate_dst (N := 1) rfl ?_); refine box_event ?hg (N := 1) ?hd (cs := #[.int .i64 a0_0, .slice A0_1 l0_1.length c0_1]) (t := 53) ?hr ?_; (case hd => rfl); (case hg => rfl); (case hr => first | (go_simp; done) | (go_simp; rfl)); intro gb139 hg w3 hbox hb; have n0_ := aS_ (below_step (kB0 HB) hb); have n1_ := aS_ (hbox); have n2_ := aS_ ((kg hg (kB0 HB) : w.heap.size ≤ gb139)); have n3_ := aS_ ((kg hg (kB0 HB) : w.heap.size ≤ gb139)); clear HB; have HB := n0_; have BK139 := n1_; have GW139 := n2_; have GE139 := n3_; clear n0_ n1_ n2_ n3_; clear hb hbox hg; have hcz4 := blk2 (w := w3) BK139.out))
  go_ret2
  exact ⟨by first | rfl | (simp [errW_none, errW_some] <;> rfl) | (simp [*, errW_none, errW_some] <;> rfl), kB1 HB GE139⟩
 ·rw [if_neg c2] at H
  have c2b0 := beq_eq_false_iff_ne.mpr c2
  have c2b1 := bne_iff_ne.mpr c2
  have c2b2 : ¬ (l0_1 = []) := fun h_ => c2 (by rw [h_]; rfl)
  by_cases c5 : 0 ≤ (l0_1.length : Int)
  ·rw [if_pos c5] at H
   have c5b0 := eq_true c5
   have c5b1 := decide_eq_true c5
   clear c5
   by_cases c6 : ((l0_1.length : Int) : Int).toNat ≤ 35184372088832
   ·rw [if_pos c6] at H
    have c6b0 := eq_true c6
    have c6b1 := decide_eq_true c6
    clear c6
    obtain ⟨y140, hy140⟩ : ∃ y_ : List Int, y_ = (List.replicate ((l0_1.length : Int) : Int).toNat 0) := ⟨_, rfl⟩
    (try replace H := bS_ H); rw [← hy140] at H; try dsimp only at H
    have Ny140 := aS_ hy140
    clear hy140
    have H' := aS_ H
    clear H
    go_enter Try.func67, Try.ntmps67
    go_wp2_with (first | ((with_reducible refine gate_dst (N := 1) rfl ?_); refine box_event ?hg (N := 1) ?hd (cs := #[.int .i64 a0_0, .slice A0_1 l0_1.length c0_1]) (t := 53) ?hr ?_; (case hd => rfl); (case hg => rfl); (case hr => first | (go_simp; done) | (go_simp; rfl)); intro gb139 hg w7 hbox hb; have n0_ := aS_ (below_step (kB0 HB) hb); have n1_ := aS_ (hbox); have n2_ := aS_ ((kg hg (kB0 HB) : w.heap.size ≤ gb139)); have n3_ := aS_ ((kg hg (kB0 HB) : w.heap.size ≤ gb139)); clear HB; have HB := n0_; have BK139 := n1_; have GW139 := n2_; have GE139 := n3_; clear n0_ n1_ n2_ n3_; clear hb hbox hg; have hcz8 := blk2 (w := w7) BK139.out) | ((with_reducible refine gate_dst (N := 20) rfl ?_); refine Kd.R_make (Kd.int .i64) _ 3 rfl (N := 20) rfl 54 _ _ rfl (l0_1.length : Int) rfl rfl Try.underlying54 (.int .i64 0) 8 info3 rfl (by decide) (by omega) 0 (ok := fun _ => True) (okp := fun _ => True) rfl (fun _ hk => hk) trivial (of_decide_eq_true ka) (Nat.le_trans (Nat.mul_le_mul_right _ (of_decide_eq_true ka : (l0_1.length : Int).toNat ≤ 35184372088832)) (by omega)) (Below.refl _ _) (Nat.le_refl _) ?_; intro v141 w9 ho10 hb hg_ hnew_; clear hg_ hnew_; (first | rw [← Ny140.out] at ho10 | (simp only [Int.reduceToNat] at ho10; rw [← Ny140.out] at ho10)); have n0_ := aS_ (Kd.R_lower ho10 (below_size (kB1 HB GE139))); have n1_ := aS_ (blk_below (g := gb139) (o := .cells #[.int .i64 a0_0, .slice A0_1 l0_1.length c0_1] 53 (0, 0)) (kb BK139) hb); have n2_ := aS_ (below_step (kB1 HB GE139) hb); clear BK139; clear HB; have HO142 := n0_; have BK139 := n1_; have HB := n2_; clear n0_ n1_ n2_; clear hb ho10; have hcz11 := blk2 (w := w9) BK139.out))
    go_loopg [24] k (fun kq v24 w' => ∃ (x4_1 : List Int) (x24_1 : Int), v24 = .int .i64 x24_1 ∧ Aside0 (trees_Shape.l0 kq x4_1 l0_1 (l0_1.length : Int) x24_1 a0_0 l0_1 = some (r1, r2)) ∧ Aside0 (kq ≤ k) ∧ Aside0 (Kd.R (Kd.int .i64) 3 w' w.heap.size (fun _ => True) v141 x4_1) ∧ Aside0 (w'.heap[gb139]? = some (.cells #[.int .i64 a0_0, (.slice A0_1 l0_1.length c0_1)] 53 (0, 0))) ∧ Aside0 (Below w.heap.size w w'))
    case atStart => exact ⟨(y140), (0), kr, H', ⟨Nat.le_refl _⟩, ⟨kR HO142⟩, ⟨kb BK139⟩, ⟨kB1 HB GE139⟩⟩
    case round =>
     clear H'
     try clear c2; try clear c2b0; try clear c2b1; try clear c2b2; try clear p2; try clear c5; try clear c5b0; try clear c5b1; try clear c6; try clear c6b0; try clear c6b1; try clear hcz11; try clear hcz4; try clear hcz8
     obtain ⟨x4_1, x24_1, rfl, HA, HK1, HO_4, BK139, HB⟩ := hrel
     cases gk with
     | zero => exact absurd HA.out (by simp [trees_Shape.l0])
     | succ k1 =>
      have H := HA.out
      clear HA
      simp only [trees_Shape.l0] at H
      by_cases c12 : x24_1 < (l0_1.length : Int)
      ·rw [if_pos c12] at H
       have c12b0 := decide_eq_true c12
       clear c12
       by_cases c13 : 0 ≤ x24_1
       ·rw [if_pos c13] at H
        have c13b0 := decide_eq_true c13
        clear c13
        by_cases c14 : x24_1 < (l0_1.length : Int)
        ·rw [if_pos c14] at H
         have c14b0 := decide_eq_true c14
         clear c14
         replace H := Option.bind_eq_some_iff.mp H
         obtain ⟨t145, A150, H⟩ := H
         try dsimp only at H
         have A15 := aS_ A150
         clear A150
         by_cases c16 : t145 = true
         ·subst c16
          rw [if_pos rfl] at H
          replace H := Option.bind_eq_some_iff.mp H
          obtain ⟨t146, A170, H⟩ := H
          try dsimp only at H
          have A17 := aS_ A170
          clear A170
          by_cases c18 : t146 = true
          ·subst c18
           rw [if_pos rfl] at H
           by_cases c19 : 0 ≤ ((rd_T71 l0_1 x24_1).f6)
           ·rw [if_pos c19] at H
            have c19b0 := decide_eq_true c19
            clear c19
            by_cases c20 : ((rd_T71 l0_1 x24_1).f6) < (x4_1.length : Int)
            ·rw [if_pos c20] at H
             have c20b0 := decide_eq_true c20
             clear c20
             obtain ⟨y148, hy148⟩ : ∃ y_ : List Int, y_ = (x4_1.set (((rd_T71 l0_1 x24_1).f6) : Int).toNat (wrap64 ((rd x4_1 ((rd_T71 l0_1 x24_1).f6)) + 1))) := ⟨_, rfl⟩
             (try replace H := bS_ H); rw [← hy148] at H; try dsimp only at H
             have Ny148 := aS_ hy148
             clear hy148
             by_cases c22 : 0 ≤ ((rd_T71 l0_1 x24_1).f7)
             ·rw [if_pos c22] at H
              have c22b0 := decide_eq_true c22
              clear c22
              by_cases c23 : ((rd_T71 l0_1 x24_1).f7) < (x4_1.length : Int)
              ·rw [if_pos c23] at H
               have c23b0 := decide_eq_true c23
               clear c23
               obtain ⟨y150, hy150⟩ : ∃ y_ : List Int, y_ = (y148.set (((rd_T71 l0_1 x24_1).f7) : Int).toNat (wrap64 ((rd y148 ((rd_T71 l0_1 x24_1).f7)) + 1))) := ⟨_, rfl⟩
               (try replace H := bS_ H); rw [← hy150] at H; try dsimp only at H
               have Ny150 := aS_ hy150
               clear hy150
               have H' := aS_ H
               clear H
               have p143 : 0 ≤ (x24_1 : Int) := of_decide_eq_true ka
               have q143 : x24_1 < (l0_1.length : Int) := of_decide_eq_true ka
               obtain ⟨ad143, A143_4, c143_4, e143, hx143_0, hx143_1, hx143_2, hx143_3, hx143_4, hx143_5, hx143_6, hx143_7, hl143_4, hi143_4⟩ := at_T71 HR0_1.out x24_1 p143 q143
               cases e143
               replace hx143_0 := cB_ HB.out hx143_0
               replace hx143_1 := cB_ HB.out hx143_1
               replace hx143_2 := cB_ HB.out hx143_2
               replace hx143_3 := cB_ HB.out hx143_3
               replace hx143_4 := cB_ HB.out hx143_4
               replace hx143_5 := cB_ HB.out hx143_5
               replace hx143_6 := cB_ HB.out hx143_6
               replace hx143_7 := cB_ HB.out hx143_7
               have HR143_4 := aS_ hi143_4
               have HC143_4 := aS_ hl143_4
               clear hi143_4 hl143_4
               replace p143 := eq_true p143
               replace q143 := eq_true q143
               go_wp2_with (first | ((with_reducible refine gate_dst (N := 6) rfl ?_); refine box_event ?hg (N := 6) ?hd (cs := #[.int .u8 0, .int .i64 0, .int .i64 0, .float .f64 0, .slice none 0 0, .int .u8 0, .int .i64 0, .int .i64 0]) (t := 71) ?hr ?_; (case hd => rfl); (case hg => rfl); (case hr => first | (go_simp; done) | (go_simp; rfl)); intro gb144 hg w25 hbox hb; have n0_ := aS_ (Kd.R_below (kR HO_4) hb); have n1_ := aS_ (blk_below (g := gb139) (o := .cells #[.int .i64 a0_0, .slice (some ad143) l0_1.length c0_1] 53 (0, 0)) (kb BK139) hb); have n2_ := aS_ (below_step (kB1 HB GE139) hb); have n3_ := aS_ (hbox); have n4_ := aS_ ((kg hg (kB1 HB GE139) : w.heap.size ≤ gb144)); have n5_ := aS_ ((kg hg (kB1 HB GE139) : w.heap.size ≤ gb144)); have n6_ := aS_ ((by rw [hg]; exact Nat.ne_of_lt (blk_lt (g := gb139) (o := .cells #[.int .i64 a0_0, .slice (some ad143) l0_1.length c0_1] 53 (0, 0)) (kb BK139)) : gb139 ≠ gb144)); have n7_ := aS_ ((by rw [hg]; exact Nat.ne_of_gt (blk_lt (g := gb139) (o := .cells #[.int .i64 a0_0, .slice (some ad143) l0_1.length c0_1] 53 (0, 0)) (kb BK139)) : gb144 ≠ gb139)); clear HO_4; clear BK139; clear HB; have HO_4 := n0_; have BK139 := n1_; have HB := n2_; have BK144 := n3_; have GW144 := n4_; have GE144 := n5_; have NB139_144 := n6_; have NB144_139 := n7_; clear n0_ n1_ n2_ n3_ n4_ n5_ n6_ n7_; clear hb hbox hg; have hnb26 := NB144_139.out; have hnc26 := NB139_144.out; have hcz27 := blk8 (w := w25) BK144.out; have hcz28 := blk2 (w := w25) BK139.out) | ((with_reducible refine gate_callee (f := 75) rfl ?_); refine goesL_ (some 33) rfl rfl Try.func75 (by kernel_rfl) rfl #[.agg #[.int .u8 ((rd_T71 l0_1 x24_1).f0), .int .i64 ((rd_T71 l0_1 x24_1).f1), .int .i64 ((rd_T71 l0_1 x24_1).f2), .float .f64 ((rd_T71 l0_1 x24_1).f3), .slice A143_4 ((rd_T71 l0_1 x24_1).f4).length c143_4, .int .u8 ((rd_T71 l0_1 x24_1).f5), .int .i64 ((rd_T71 l0_1 x24_1).f6), .int .i64 ((rd_T71 l0_1 x24_1).f7)], .int .i64 (l0_1.length : Int)] rfl (by (try simp only [List.map_toArray, List.map_cons, List.map_nil]); first | done | rfl | (simp only [List.length_drop, List.length_take]; rfl)) ?_; (with_reducible refine (trees_right.calls k1 ((rd_T71 l0_1 x24_1).f0) ((rd_T71 l0_1 x24_1).f1) ((rd_T71 l0_1 x24_1).f2) ((rd_T71 l0_1 x24_1).f3) _ _ ((rd_T71 l0_1 x24_1).f4) ((rd_T71 l0_1 x24_1).f5) ((rd_T71 l0_1 x24_1).f6) ((rd_T71 l0_1 x24_1).f7) (l0_1.length : Int) true _ ?side1 ?side2 A15.out).mono ?_); (case side1 => exact Kd.C_below HR143_4.out (kB2 HB GE139 GE144)); (case side2 => exact HC143_4.out); rintro e w29 ⟨rfl, hb⟩; refine ⟨_, rfl, ?_⟩; have n0_ := aS_ (Kd.R_below (by (with_reducible repeat (first | apply Kd.R_alloc | apply Kd.R_drewN | apply Kd.R_drew)); exact (Kd.R_mono (Kd.R_far8 (Kd.R_types HO_4.out BK144.out (by decide)) (fun _ hk => hk.2) _ _ _ _ _ _ _ _) (fun _ h_ => h_.1))) hb); have n1_ := aS_ (blk_below (g := gb139) (o := .cells #[.int .i64 a0_0, .slice (some ad143) l0_1.length c0_1] 53 (0, 0)) (by (with_reducible repeat (first | refine blk_drewN ?_ _ | refine blk_drew ?_ | refine blk_alloc ?_ _)); refine blk_far8 ?_ NB139_144.out _ _ _ _ _ _ _ _; (with_reducible repeat (first | refine blk_drewN ?_ _ | refine blk_drew ?_ | refine blk_alloc ?_ _)); exact BK139.out) hb); have n2_ := aS_ (blk_below (g := gb144) (o := .cells #[.int .u8 ((rd_T71 l0_1 x24_1).f0), .int .i64 ((rd_T71 l0_1 x24_1).f1), .int .i64 ((rd_T71 l0_1 x24_1).f2), .float .f64 ((rd_T71 l0_1 x24_1).f3), .slice A143_4 ((rd_T71 l0_1 x24_1).f4).length c143_4, .int .u8 ((rd_T71 l0_1 x24_1).f5), .int .i64 ((rd_T71 l0_1 x24_1).f6), .int .i64 ((rd_T71 l0_1 x24_1).f7)] 71 (0, 0)) (by (with_reducible repeat (first | refine blk_drewN ?_ _ | refine blk_drew ?_ | refine blk_alloc ?_ _)); exact blk_put8 (kb BK144) _ _ _ _ _ _ _ _) hb); have n3_ := aS_ (below_step (kB2 HB GE139 GE144) hb); clear HO_4; clear BK139; clear BK144; clear HB; have HO_4 := n0_; have BK139 := n1_; have BK144 := n2_; have HB := n3_; clear n0_ n1_ n2_ n3_; (try clear hb); (try clear hb2); (try clear hk); (try clear hi); have hcz30 := blk8 (w := w29) BK144.out) | ((with_reducible refine gate_callee (f := 69) rfl ?_); refine goesL_ (some 37) rfl rfl Try.func69 (by kernel_rfl) rfl #[.agg #[.int .u8 ((rd_T71 l0_1 x24_1).f0), .int .i64 ((rd_T71 l0_1 x24_1).f1), .int .i64 ((rd_T71 l0_1 x24_1).f2), .float .f64 ((rd_T71 l0_1 x24_1).f3), .slice A143_4 ((rd_T71 l0_1 x24_1).f4).length c143_4, .int .u8 ((rd_T71 l0_1 x24_1).f5), .int .i64 ((rd_T71 l0_1 x24_1).f6), .int .i64 ((rd_T71 l0_1 x24_1).f7)]] rfl (by (try simp only [List.map_toArray, List.map_cons, List.map_nil]); first | done | rfl | (simp only [List.length_drop, List.length_take]; rfl)) ?_; (with_reducible refine (trees_inner.calls ((rd_T71 l0_1 x24_1).f0) ((rd_T71 l0_1 x24_1).f1) ((rd_T71 l0_1 x24_1).f2) ((rd_T71 l0_1 x24_1).f3) _ _ ((rd_T71 l0_1 x24_1).f4) ((rd_T71 l0_1 x24_1).f5) ((rd_T71 l0_1 x24_1).f6) ((rd_T71 l0_1 x24_1).f7) true _ ?side1 ?side2 A17.out).mono ?_); (case side1 => repeat (first | exact (Kd.C_below HR143_4.out HB.out) | (with_reducible refine Kd.C_alloc ?_ _) | (with_reducible refine Kd.C_drewN ?_ _) | (with_reducible refine Kd.C_drew ?_))); (case side2 => exact HC143_4.out); rintro e w31 ⟨rfl, hb⟩; refine ⟨_, rfl, ?_⟩; have n0_ := aS_ (Kd.R_below (kR HO_4) hb); have n1_ := aS_ (blk_below (g := gb139) (o := .cells #[.int .i64 a0_0, .slice (some ad143) l0_1.length c0_1] 53 (0, 0)) (kb BK139) hb); have n2_ := aS_ (blk_below (g := gb144) (o := .cells #[.int .u8 ((rd_T71 l0_1 x24_1).f0), .int .i64 ((rd_T71 l0_1 x24_1).f1), .int .i64 ((rd_T71 l0_1 x24_1).f2), .float .f64 ((rd_T71 l0_1 x24_1).f3), .slice A143_4 ((rd_T71 l0_1 x24_1).f4).length c143_4, .int .u8 ((rd_T71 l0_1 x24_1).f5), .int .i64 ((rd_T71 l0_1 x24_1).f6), .int .i64 ((rd_T71 l0_1 x24_1).f7)] 71 (0, 0)) (kb BK144) hb); have n3_ := aS_ (below_step (kB2 HB GE139 GE144) hb); clear HO_4; clear BK139; clear BK144; clear HB; have HO_4 := n0_; have BK139 := n1_; have BK144 := n2_; have HB := n3_; clear n0_ n1_ n2_ n3_; (try clear hb); (try clear hb2); (try clear hk); (try clear hi); have hcz32 := blk8 (w := w31) BK144.out; obtain ⟨Ao33, co33, eo33⟩ := Kd.R_slice HO_4.out; subst eo33; have p147 : 0 ≤ (((rd_T71 l0_1 x24_1).f6) : Int) := of_decide_eq_true ka; have q147 : ((rd_T71 l0_1 x24_1).f6) < (x4_1.length : Int) := of_decide_eq_true ka; obtain ⟨ad147, e147, hx147_0⟩ := Kd.at_int (Kd.R_reads' HO_4.out).2.2 ((rd_T71 l0_1 x24_1).f6) p147 q147; cases e147; replace p147 := eq_true p147; replace q147 := eq_true q147; have p21 : 0 ≤ (((rd_T71 l0_1 x24_1).f6) : Int) := of_decide_eq_true ka; have q21 : (((rd_T71 l0_1 x24_1).f6) : Int) < ((x4_1.length : Int) : Int) := of_decide_eq_true ka; obtain ⟨go21, co21, eo21, gb21, gl21, cl21, HG21⟩ := Kd.R_form HO_4.out (by omega); (first | cases eo21 | (injection eo21 with ea_ en_ ec_; (first | subst ea_ | (injection ea_ with ea_; subst ea_)); subst ec_; clear en_)); have GB21 := aS_ gb21; have GG21 := aS_ HG21; clear gb21 gl21 HG21; (first | simp only [add_plain] at hx147_0 | skip); obtain ⟨hx21_0, hf21_0⟩ := Kd.R_celln 0 HO_4.out (((rd_T71 l0_1 x24_1).f6) : Int) p21 q21; replace p21 := eq_true p21; replace q21 := eq_true q21; obtain ⟨hy34_, hz34_⟩ := Kd.R_celln 0 HO_4.out (((rd_T71 l0_1 x24_1).f6) : Int) (of_decide_eq_true ka) (of_decide_eq_true ka); have HP34 := Kd.R_putg HO_4.out (((rd_T71 l0_1 x24_1).f6) : Int) (wrap64 ((rd x4_1 ((rd_T71 l0_1 x24_1).f6)) + 1))) | ((with_reducible refine gate_store (t := 3) (p := 44) rfl ?_); refine store_event (t := 3) (p := 44) (v := ?vo_w35) (w1 := (w31.setCell ⟨go21, (((rd_T71 l0_1 x24_1).f6) : Int).toNat, none⟩ (.int .i64 (wrap64 ((rd x4_1 ((rd_T71 l0_1 x24_1).f6)) + 1))))) ?hg ?ho ?hn ?hr ?_; (case ho => rfl); (case hg => rfl); (case hn => rfl); (case hr => first | (go_simp; done) | (go_simp; rfl)); intro w35 hw; have hg : w31.grownBy w35 (some go21) := (by rw [hw]; exact HP34.2); have hp_ : Kd.R (Kd.int .i64) 3 w35 w.heap.size (fun _ => True) (.slice (some ⟨go21, 0, none⟩) x4_1.length co33) y148 := (by rw [hw, Ny148.out]; exact HP34.1); clear HP34; have n0_ := aS_ (hp_); have n1_ := aS_ (blk_grown (g := gb139) (o := .cells #[.int .i64 a0_0, .slice (some ad143) l0_1.length c0_1] 53 (0, 0)) (kb BK139) hg (Kd.R_ne HO_4.out BK139.out (by decide))); have n2_ := aS_ (blk_grown (g := gb144) (o := .cells #[.int .u8 ((rd_T71 l0_1 x24_1).f0), .int .i64 ((rd_T71 l0_1 x24_1).f1), .int .i64 ((rd_T71 l0_1 x24_1).f2), .float .f64 ((rd_T71 l0_1 x24_1).f3), .slice A143_4 ((rd_T71 l0_1 x24_1).f4).length c143_4, .int .u8 ((rd_T71 l0_1 x24_1).f5), .int .i64 ((rd_T71 l0_1 x24_1).f6), .int .i64 ((rd_T71 l0_1 x24_1).f7)] 71 (0, 0)) (kb BK144) hg (Kd.R_ne HO_4.out BK144.out (by decide))); have n3_ := aS_ ((by rw [hw]; exact below_set (HB.out) GB21.out : Below w.heap.size w w35)); clear HO_4; clear BK139; clear BK144; clear HB; have HO_4 := n0_; have BK139 := n1_; have BK144 := n2_; have HB := n3_; clear n0_ n1_ n2_ n3_; clear hg hw hp_; have hcz36 := blk8 (w := w35) BK144.out; have p149 : 0 ≤ (((rd_T71 l0_1 x24_1).f7) : Int) := of_decide_eq_true ka; have q149 : ((rd_T71 l0_1 x24_1).f7) < (y148.length : Int) := (by have h_ : (((rd_T71 l0_1 x24_1).f7) : Int) < ((x4_1.length : Int) : Int) := of_decide_eq_true ka; first | (have e_ := (Kd.R_reads' HO_4.out).1; omega) | simpa only [Ny148.out, List.length_set] using h_); have ql149 : ((((rd_T71 l0_1 x24_1).f7) : Int) < ((x4_1.length : Int) : Int)) = True := eq_true (of_decide_eq_true ka); obtain ⟨ad149, e149, hx149_0⟩ := Kd.at_int (Kd.R_reads' HO_4.out).2.2 ((rd_T71 l0_1 x24_1).f7) p149 q149; obtain rfl : (⟨go21, 0, none⟩ : Addr) = ad149 := (by injection e149); (first | simp only [add_plain] at hx149_0 | simp only [add_at] at hx149_0 | simp only [Addr.add, Nat.zero_add] at hx149_0 | skip); replace p149 := eq_true p149; replace q149 := eq_true q149; have p24 : 0 ≤ (((rd_T71 l0_1 x24_1).f7) : Int) := of_decide_eq_true ka; have q24 : (((rd_T71 l0_1 x24_1).f7) : Int) < ((x4_1.length : Int) : Int) := of_decide_eq_true ka; obtain ⟨hx24_0, hf24_0⟩ := Kd.R_celln 0 HO_4.out (((rd_T71 l0_1 x24_1).f7) : Int) p24 q24; replace p24 := eq_true p24; replace q24 := eq_true q24; obtain ⟨hy37_, hz37_⟩ := Kd.R_celln 0 HO_4.out (((rd_T71 l0_1 x24_1).f7) : Int) (of_decide_eq_true ka) (of_decide_eq_true ka); have HP37 := Kd.R_putg HO_4.out (((rd_T71 l0_1 x24_1).f7) : Int) (wrap64 ((rd y148 ((rd_T71 l0_1 x24_1).f7)) + 1))) | ((with_reducible refine gate_store (t := 3) (p := 51) rfl ?_); refine store_event (t := 3) (p := 51) (v := ?vo_w38) (w1 := (w35.setCell ⟨go21, (((rd_T71 l0_1 x24_1).f7) : Int).toNat, none⟩ (.int .i64 (wrap64 ((rd y148 ((rd_T71 l0_1 x24_1).f7)) + 1))))) ?hg ?ho ?hn ?hr ?_; (case ho => rfl); (case hg => rfl); (case hn => rfl); (case hr => first | (go_simp; done) | (go_simp; rfl)); intro w38 hw; have hg : w35.grownBy w38 (some go21) := (by rw [hw]; exact HP37.2); have hp_ : Kd.R (Kd.int .i64) 3 w38 w.heap.size (fun _ => True) (.slice (some ⟨go21, 0, none⟩) x4_1.length co33) y150 := (by rw [hw, Ny150.out]; exact HP37.1); clear HP37; have n0_ := aS_ (hp_); have n1_ := aS_ (blk_grown (g := gb139) (o := .cells #[.int .i64 a0_0, .slice (some ad143) l0_1.length c0_1] 53 (0, 0)) (kb BK139) hg (Kd.R_ne HO_4.out BK139.out (by decide))); have n2_ := aS_ (blk_grown (g := gb144) (o := .cells #[.int .u8 ((rd_T71 l0_1 x24_1).f0), .int .i64 ((rd_T71 l0_1 x24_1).f1), .int .i64 ((rd_T71 l0_1 x24_1).f2), .float .f64 ((rd_T71 l0_1 x24_1).f3), .slice A143_4 ((rd_T71 l0_1 x24_1).f4).length c143_4, .int .u8 ((rd_T71 l0_1 x24_1).f5), .int .i64 ((rd_T71 l0_1 x24_1).f6), .int .i64 ((rd_T71 l0_1 x24_1).f7)] 71 (0, 0)) (kb BK144) hg (Kd.R_ne HO_4.out BK144.out (by decide))); have n3_ := aS_ ((by rw [hw]; exact below_set (HB.out) GB21.out : Below w.heap.size w w38)); clear HO_4; clear BK139; clear BK144; clear HB; have HO_4 := n0_; have BK139 := n1_; have BK144 := n2_; have HB := n3_; clear n0_ n1_ n2_ n3_; clear hg hw hp_))
               go_roundg k1
               case measure => have := HK1.out; omega
               case rel => exact ⟨(y150), (wrap64 (x24_1 + 1)), kr, H', ⟨by have := HK1.out; omega⟩, ⟨kR HO_4⟩, ⟨kb BK139⟩, ⟨kB2 HB GE139 GE144⟩⟩
              ·rw [if_neg c23] at H
               exact absurd H (by simp)
             ·rw [if_neg c22] at H
              exact absurd H (by simp)
            ·rw [if_neg c20] at H
             exact absurd H (by simp)
           ·rw [if_neg c19] at H
            exact absurd H (by simp)
          ·replace c18 := Bool.eq_false_iff.mpr c18
           subst c18
           rw [if_neg (show ¬ (false = true) by decide)] at H
           have H' := aS_ H
           clear H
           have p143 : 0 ≤ (x24_1 : Int) := of_decide_eq_true ka
           have q143 : x24_1 < (l0_1.length : Int) := of_decide_eq_true ka
           obtain ⟨ad143, A143_4, c143_4, e143, hx143_0, hx143_1, hx143_2, hx143_3, hx143_4, hx143_5, hx143_6, hx143_7, hl143_4, hi143_4⟩ := at_T71 HR0_1.out x24_1 p143 q143
           cases e143
           replace hx143_0 := cB_ HB.out hx143_0
           replace hx143_1 := cB_ HB.out hx143_1
           replace hx143_2 := cB_ HB.out hx143_2
           replace hx143_3 := cB_ HB.out hx143_3
           replace hx143_4 := cB_ HB.out hx143_4
           replace hx143_5 := cB_ HB.out hx143_5
           replace hx143_6 := cB_ HB.out hx143_6
           replace hx143_7 := cB_ HB.out hx143_7
           have HR143_4 := aS_ hi143_4
           have HC143_4 := aS_ hl143_4
           clear hi143_4 hl143_4
           replace p143 := eq_true p143
           replace q143 := eq_true q143
           go_wp2_with (first | ((with_reducible refine gate_dst (N := 6) rfl ?_); refine box_event ?hg (N := 6) ?hd (cs := #[.int .u8 0, .int .i64 0, .int .i64 0, .float .f64 0, .slice none 0 0, .int .u8 0, .int .i64 0, .int .i64 0]) (t := 71) ?hr ?_; (case hd => rfl); (case hg => rfl); (case hr => first | (go_simp; done) | (go_simp; rfl)); intro gb144 hg w39 hbox hb; have n0_ := aS_ (Kd.R_below (kR HO_4) hb); have n1_ := aS_ (blk_below (g := gb139) (o := .cells #[.int .i64 a0_0, .slice (some ad143) l0_1.length c0_1] 53 (0, 0)) (kb BK139) hb); have n2_ := aS_ (below_step (kB1 HB GE139) hb); have n3_ := aS_ (hbox); have n4_ := aS_ ((kg hg (kB1 HB GE139) : w.heap.size ≤ gb144)); have n5_ := aS_ ((kg hg (kB1 HB GE139) : w.heap.size ≤ gb144)); have n6_ := aS_ ((by rw [hg]; exact Nat.ne_of_lt (blk_lt (g := gb139) (o := .cells #[.int .i64 a0_0, .slice (some ad143) l0_1.length c0_1] 53 (0, 0)) (kb BK139)) : gb139 ≠ gb144)); have n7_ := aS_ ((by rw [hg]; exact Nat.ne_of_gt (blk_lt (g := gb139) (o := .cells #[.int .i64 a0_0, .slice (some ad143) l0_1.length c0_1] 53 (0, 0)) (kb BK139)) : gb144 ≠ gb139)); clear HO_4; clear BK139; clear HB; have HO_4 := n0_; have BK139 := n1_; have HB := n2_; have BK144 := n3_; have GW144 := n4_; have GE144 := n5_; have NB139_144 := n6_; have NB144_139 := n7_; clear n0_ n1_ n2_ n3_ n4_ n5_ n6_ n7_; clear hb hbox hg; have hnb40 := NB144_139.out; have hnc40 := NB139_144.out; have hcz41 := blk8 (w := w39) BK144.out; have hcz42 := blk2 (w := w39) BK139.out) | ((with_reducible refine gate_callee (f := 75) rfl ?_); refine goesL_ (some 33) rfl rfl Try.func75 (by kernel_rfl) rfl #[.agg #[.int .u8 ((rd_T71 l0_1 x24_1).f0), .int .i64 ((rd_T71 l0_1 x24_1).f1), .int .i64 ((rd_T71 l0_1 x24_1).f2), .float .f64 ((rd_T71 l0_1 x24_1).f3), .slice A143_4 ((rd_T71 l0_1 x24_1).f4).length c143_4, .int .u8 ((rd_T71 l0_1 x24_1).f5), .int .i64 ((rd_T71 l0_1 x24_1).f6), .int .i64 ((rd_T71 l0_1 x24_1).f7)], .int .i64 (l0_1.length : Int)] rfl (by (try simp only [List.map_toArray, List.map_cons, List.map_nil]); first | done | rfl | (simp only [List.length_drop, List.length_take]; rfl)) ?_; (with_reducible refine (trees_right.calls k1 ((rd_T71 l0_1 x24_1).f0) ((rd_T71 l0_1 x24_1).f1) ((rd_T71 l0_1 x24_1).f2) ((rd_T71 l0_1 x24_1).f3) _ _ ((rd_T71 l0_1 x24_1).f4) ((rd_T71 l0_1 x24_1).f5) ((rd_T71 l0_1 x24_1).f6) ((rd_T71 l0_1 x24_1).f7) (l0_1.length : Int) true _ ?side1 ?side2 A15.out).mono ?_); (case side1 => exact Kd.C_below HR143_4.out (kB2 HB GE139 GE144)); (case side2 => exact HC143_4.out); rintro e w43 ⟨rfl, hb⟩; refine ⟨_, rfl, ?_⟩; have n0_ := aS_ (Kd.R_below (by (with_reducible repeat (first | apply Kd.R_alloc | apply Kd.R_drewN | apply Kd.R_drew)); exact (Kd.R_mono (Kd.R_far8 (Kd.R_types HO_4.out BK144.out (by decide)) (fun _ hk => hk.2) _ _ _ _ _ _ _ _) (fun _ h_ => h_.1))) hb); have n1_ := aS_ (blk_below (g := gb139) (o := .cells #[.int .i64 a0_0, .slice (some ad143) l0_1.length c0_1] 53 (0, 0)) (by (with_reducible repeat (first | refine blk_drewN ?_ _ | refine blk_drew ?_ | refine blk_alloc ?_ _)); refine blk_far8 ?_ NB139_144.out _ _ _ _ _ _ _ _; (with_reducible repeat (first | refine blk_drewN ?_ _ | refine blk_drew ?_ | refine blk_alloc ?_ _)); exact BK139.out) hb); have n2_ := aS_ (blk_below (g := gb144) (o := .cells #[.int .u8 ((rd_T71 l0_1 x24_1).f0), .int .i64 ((rd_T71 l0_1 x24_1).f1), .int .i64 ((rd_T71 l0_1 x24_1).f2), .float .f64 ((rd_T71 l0_1 x24_1).f3), .slice A143_4 ((rd_T71 l0_1 x24_1).f4).length c143_4, .int .u8 ((rd_T71 l0_1 x24_1).f5), .int .i64 ((rd_T71 l0_1 x24_1).f6), .int .i64 ((rd_T71 l0_1 x24_1).f7)] 71 (0, 0)) (by (with_reducible repeat (first | refine blk_drewN ?_ _ | refine blk_drew ?_ | refine blk_alloc ?_ _)); exact blk_put8 (kb BK144) _ _ _ _ _ _ _ _) hb); have n3_ := aS_ (below_step (kB2 HB GE139 GE144) hb); clear HO_4; clear BK139; clear BK144; clear HB; have HO_4 := n0_; have BK139 := n1_; have BK144 := n2_; have HB := n3_; clear n0_ n1_ n2_ n3_; (try clear hb); (try clear hb2); (try clear hk); (try clear hi); have hcz44 := blk8 (w := w43) BK144.out) | ((with_reducible refine gate_callee (f := 69) rfl ?_); refine goesL_ (some 37) rfl rfl Try.func69 (by kernel_rfl) rfl #[.agg #[.int .u8 ((rd_T71 l0_1 x24_1).f0), .int .i64 ((rd_T71 l0_1 x24_1).f1), .int .i64 ((rd_T71 l0_1 x24_1).f2), .float .f64 ((rd_T71 l0_1 x24_1).f3), .slice A143_4 ((rd_T71 l0_1 x24_1).f4).length c143_4, .int .u8 ((rd_T71 l0_1 x24_1).f5), .int .i64 ((rd_T71 l0_1 x24_1).f6), .int .i64 ((rd_T71 l0_1 x24_1).f7)]] rfl (by (try simp only [List.map_toArray, List.map_cons, List.map_nil]); first | done | rfl | (simp only [List.length_drop, List.length_take]; rfl)) ?_; (with_reducible refine (trees_inner.calls ((rd_T71 l0_1 x24_1).f0) ((rd_T71 l0_1 x24_1).f1) ((rd_T71 l0_1 x24_1).f2) ((rd_T71 l0_1 x24_1).f3) _ _ ((rd_T71 l0_1 x24_1).f4) ((rd_T71 l0_1 x24_1).f5) ((rd_T71 l0_1 x24_1).f6) ((rd_T71 l0_1 x24_1).f7) false _ ?side1 ?side2 A17.out).mono ?_); (case side1 => repeat (first | exact (Kd.C_below HR143_4.out HB.out) | (with_reducible refine Kd.C_alloc ?_ _) | (with_reducible refine Kd.C_drewN ?_ _) | (with_reducible refine Kd.C_drew ?_))); (case side2 => exact HC143_4.out); rintro e w45 ⟨rfl, hb⟩; refine ⟨_, rfl, ?_⟩; have n0_ := aS_ (Kd.R_below (kR HO_4) hb); have n1_ := aS_ (blk_below (g := gb139) (o := .cells #[.int .i64 a0_0, .slice (some ad143) l0_1.length c0_1] 53 (0, 0)) (kb BK139) hb); have n2_ := aS_ (blk_below (g := gb144) (o := .cells #[.int .u8 ((rd_T71 l0_1 x24_1).f0), .int .i64 ((rd_T71 l0_1 x24_1).f1), .int .i64 ((rd_T71 l0_1 x24_1).f2), .float .f64 ((rd_T71 l0_1 x24_1).f3), .slice A143_4 ((rd_T71 l0_1 x24_1).f4).length c143_4, .int .u8 ((rd_T71 l0_1 x24_1).f5), .int .i64 ((rd_T71 l0_1 x24_1).f6), .int .i64 ((rd_T71 l0_1 x24_1).f7)] 71 (0, 0)) (kb BK144) hb); have n3_ := aS_ (below_step (kB2 HB GE139 GE144) hb); clear HO_4; clear BK139; clear BK144; clear HB; have HO_4 := n0_; have BK139 := n1_; have BK144 := n2_; have HB := n3_; clear n0_ n1_ n2_ n3_; (try clear hb); (try clear hb2); (try clear hk); (try clear hi)))
           go_roundg k1
           case measure => have := HK1.out; omega
           case rel => exact ⟨(x4_1), (wrap64 (x24_1 + 1)), kr, H', ⟨by have := HK1.out; omega⟩, ⟨kR HO_4⟩, ⟨kb BK139⟩, ⟨kB2 HB GE139 GE144⟩⟩
         ·replace c16 := Bool.eq_false_iff.mpr c16
          subst c16
          rw [if_neg (show ¬ (false = true) by decide)] at H
          simp only [Option.some.injEq, Prod.mk.injEq] at H
          obtain ⟨rfl, rfl⟩ := H
          have p143 : 0 ≤ (x24_1 : Int) := of_decide_eq_true ka
          have q143 : x24_1 < (l0_1.length : Int) := of_decide_eq_true ka
          obtain ⟨ad143, A143_4, c143_4, e143, hx143_0, hx143_1, hx143_2, hx143_3, hx143_4, hx143_5, hx143_6, hx143_7, hl143_4, hi143_4⟩ := at_T71 HR0_1.out x24_1 p143 q143
          cases e143
          replace hx143_0 := cB_ HB.out hx143_0
          replace hx143_1 := cB_ HB.out hx143_1
          replace hx143_2 := cB_ HB.out hx143_2
          replace hx143_3 := cB_ HB.out hx143_3
          replace hx143_4 := cB_ HB.out hx143_4
          replace hx143_5 := cB_ HB.out hx143_5
          replace hx143_6 := cB_ HB.out hx143_6
          replace hx143_7 := cB_ HB.out hx143_7
          have HR143_4 := aS_ hi143_4
          have HC143_4 := aS_ hl143_4
          clear hi143_4 hl143_4
          replace p143 := eq_true p143
          replace q143 := eq_true q143
          go_wp2_with (first | ((with_reducible refine gate_dst (N := 6) rfl ?_); refine box_event ?hg (N := 6) ?hd (cs := #[.int .u8 0, .int .i64 0, .int .i64 0, .float .f64 0, .slice none 0 0, .int .u8 0, .int .i64 0, .int .i64 0]) (t := 71) ?hr ?_; (case hd => rfl); (case hg => rfl); (case hr => first | (go_simp; done) | (go_simp; rfl)); intro gb144 hg w46 hbox hb; have n0_ := aS_ (Kd.R_below (kR HO_4) hb); have n1_ := aS_ (blk_below (g := gb139) (o := .cells #[.int .i64 a0_0, .slice (some ad143) l0_1.length c0_1] 53 (0, 0)) (kb BK139) hb); have n2_ := aS_ (below_step (kB1 HB GE139) hb); have n3_ := aS_ (hbox); have n4_ := aS_ ((kg hg (kB1 HB GE139) : w.heap.size ≤ gb144)); have n5_ := aS_ ((kg hg (kB1 HB GE139) : w.heap.size ≤ gb144)); have n6_ := aS_ ((by rw [hg]; exact Nat.ne_of_lt (blk_lt (g := gb139) (o := .cells #[.int .i64 a0_0, .slice (some ad143) l0_1.length c0_1] 53 (0, 0)) (kb BK139)) : gb139 ≠ gb144)); have n7_ := aS_ ((by rw [hg]; exact Nat.ne_of_gt (blk_lt (g := gb139) (o := .cells #[.int .i64 a0_0, .slice (some ad143) l0_1.length c0_1] 53 (0, 0)) (kb BK139)) : gb144 ≠ gb139)); clear HO_4; clear BK139; clear HB; have HO_4 := n0_; have BK139 := n1_; have HB := n2_; have BK144 := n3_; have GW144 := n4_; have GE144 := n5_; have NB139_144 := n6_; have NB144_139 := n7_; clear n0_ n1_ n2_ n3_ n4_ n5_ n6_ n7_; clear hb hbox hg; have hnb47 := NB144_139.out; have hnc47 := NB139_144.out; have hcz48 := blk8 (w := w46) BK144.out; have hcz49 := blk2 (w := w46) BK139.out) | ((with_reducible refine gate_callee (f := 75) rfl ?_); refine goesL_ (some 33) rfl rfl Try.func75 (by kernel_rfl) rfl #[.agg #[.int .u8 ((rd_T71 l0_1 x24_1).f0), .int .i64 ((rd_T71 l0_1 x24_1).f1), .int .i64 ((rd_T71 l0_1 x24_1).f2), .float .f64 ((rd_T71 l0_1 x24_1).f3), .slice A143_4 ((rd_T71 l0_1 x24_1).f4).length c143_4, .int .u8 ((rd_T71 l0_1 x24_1).f5), .int .i64 ((rd_T71 l0_1 x24_1).f6), .int .i64 ((rd_T71 l0_1 x24_1).f7)], .int .i64 (l0_1.length : Int)] rfl (by (try simp only [List.map_toArray, List.map_cons, List.map_nil]); first | done | rfl | (simp only [List.length_drop, List.length_take]; rfl)) ?_; (with_reducible refine (trees_right.calls k1 ((rd_T71 l0_1 x24_1).f0) ((rd_T71 l0_1 x24_1).f1) ((rd_T71 l0_1 x24_1).f2) ((rd_T71 l0_1 x24_1).f3) _ _ ((rd_T71 l0_1 x24_1).f4) ((rd_T71 l0_1 x24_1).f5) ((rd_T71 l0_1 x24_1).f6) ((rd_T71 l0_1 x24_1).f7) (l0_1.length : Int) false _ ?side1 ?side2 A15.out).mono ?_); (case side1 => exact Kd.C_below HR143_4.out (kB2 HB GE139 GE144)); (case side2 => exact HC143_4.out); rintro e w50 ⟨rfl, hb⟩; refine ⟨_, rfl, ?_⟩; have n0_ := aS_ (Kd.R_below (by (with_reducible repeat (first | apply Kd.R_alloc | apply Kd.R_drewN | apply Kd.R_drew)); exact (Kd.R_mono (Kd.R_far8 (Kd.R_types HO_4.out BK144.out (by decide)) (fun _ hk => hk.2) _ _ _ _ _ _ _ _) (fun _ h_ => h_.1))) hb); have n1_ := aS_ (blk_below (g := gb139) (o := .cells #[.int .i64 a0_0, .slice (some ad143) l0_1.length c0_1] 53 (0, 0)) (by (with_reducible repeat (first | refine blk_drewN ?_ _ | refine blk_drew ?_ | refine blk_alloc ?_ _)); refine blk_far8 ?_ NB139_144.out _ _ _ _ _ _ _ _; (with_reducible repeat (first | refine blk_drewN ?_ _ | refine blk_drew ?_ | refine blk_alloc ?_ _)); exact BK139.out) hb); have n2_ := aS_ (blk_below (g := gb144) (o := .cells #[.int .u8 ((rd_T71 l0_1 x24_1).f0), .int .i64 ((rd_T71 l0_1 x24_1).f1), .int .i64 ((rd_T71 l0_1 x24_1).f2), .float .f64 ((rd_T71 l0_1 x24_1).f3), .slice A143_4 ((rd_T71 l0_1 x24_1).f4).length c143_4, .int .u8 ((rd_T71 l0_1 x24_1).f5), .int .i64 ((rd_T71 l0_1 x24_1).f6), .int .i64 ((rd_T71 l0_1 x24_1).f7)] 71 (0, 0)) (by (with_reducible repeat (first | refine blk_drewN ?_ _ | refine blk_drew ?_ | refine blk_alloc ?_ _)); exact blk_put8 (kb BK144) _ _ _ _ _ _ _ _) hb); have n3_ := aS_ (below_step (kB2 HB GE139 GE144) hb); clear HO_4; clear BK139; clear BK144; clear HB; have HO_4 := n0_; have BK139 := n1_; have BK144 := n2_; have HB := n3_; clear n0_ n1_ n2_ n3_; (try clear hb); (try clear hb2); (try clear hk); (try clear hi)))
          go_ret2
          exact ⟨by first | rfl | (simp [errW_none, errW_some] <;> rfl) | (simp [*, errW_none, errW_some] <;> rfl), kB2 HB GE139 GE144⟩
        ·rw [if_neg c14] at H
         exact absurd H (by simp)
       ·rw [if_neg c13] at H
        exact absurd H (by simp)
      ·rw [if_neg c12] at H
       have c12b0 := decide_eq_false c12
       clear c12
       by_cases c51 : 0 ≤ (l0_1.length : Int)
       ·rw [if_pos c51] at H
        have c51b0 := eq_true c51
        have c51b1 := decide_eq_true c51
        clear c51
        by_cases c52 : ((l0_1.length : Int) : Int).toNat ≤ 281474976710656
        ·rw [if_pos c52] at H
         have c52b0 := eq_true c52
         have c52b1 := decide_eq_true c52
         clear c52
         obtain ⟨y151, hy151⟩ : ∃ y_ : List Bool, y_ = (List.replicate ((l0_1.length : Int) : Int).toNat false) := ⟨_, rfl⟩
         (try replace H := bS_ H); rw [← hy151] at H; try dsimp only at H
         have Ny151 := aS_ hy151
         clear hy151
         obtain ⟨y154, hy154⟩ : ∃ y_ : List Int, y_ = (([0] : List Int)) := ⟨_, rfl⟩
         (try replace H := bS_ H); rw [← hy154] at H; try dsimp only at H
         have Ny154 := aS_ hy154
         clear hy154
         have H' := aS_ H
         clear H
         have hcz53 := blk2 (w := wr) BK139.out
         go_wp2_with (first | ((with_reducible refine gate_dst (N := 56) rfl ?_); refine Kd.R_make Kd.bool _ 4 rfl (N := 56) rfl 47 _ _ rfl (l0_1.length : Int) rfl rfl Try.underlying47 (.bool false) 1 info4 rfl (by decide) (by omega) false (ok := fun _ => True) (okp := fun _ => True) rfl (fun _ hk => hk) trivial (of_decide_eq_true ka) (Nat.le_trans (Nat.mul_le_mul_right _ (of_decide_eq_true ka : (l0_1.length : Int).toNat ≤ 281474976710656)) (by omega)) (Below.refl _ _) (Nat.le_refl _) ?_; intro v152 w54 ho55 hb hg_ hnew_; clear hg_ hnew_; (first | rw [← Ny151.out] at ho55 | (simp only [Int.reduceToNat] at ho55; rw [← Ny151.out] at ho55)); have n0_ := aS_ (Kd.R_below (kR HO_4) hb); have n1_ := aS_ (Kd.R_lower ho55 (below_size (kB1 HB GE139))); have n2_ := aS_ (blk_below (g := gb139) (o := .cells #[.int .i64 a0_0, .slice A0_1 l0_1.length c0_1] 53 (0, 0)) (kb BK139) hb); have n3_ := aS_ (below_step (kB1 HB GE139) hb); clear HO_4; clear BK139; clear HB; have HO_4 := n0_; have HO153 := n1_; have BK139 := n2_; have HB := n3_; clear n0_ n1_ n2_ n3_; clear hb ho55) | ((with_reducible refine gate_dst (N := 57) rfl ?_); refine Kd.R_lit (Kd.int .i64) _ 3 ?hg (N := 57) ?hd (xs := ([0] : List Int)) (inner := [.int .i64 0]) (ok := fun _ => True) (okp := fun _ => True) ?hr ?hp (fun _ hk => hk) trivial (Below.refl _ _) (Nat.le_refl _) (by simp) ?_; (case hd => rfl); (case hg => rfl); (case hr => first | (go_simp; done) | (go_simp; rfl)); (case hp => exact (Reps.one (show Kd.M (Kd.int .i64) _ _ _ 0 [.int .i64 0] from rfl) (Reps.none _ _))); intro v155 w56 ho57 hb hg_ hnew_; clear hg_ hnew_; (first | rw [← Ny154.out] at ho57 | (simp only [Int.reduceToNat] at ho57; rw [← Ny154.out] at ho57)); have n0_ := aS_ (Kd.R_elder' (kR HO_4) (Kd.R_base ho57) hb); have n1_ := aS_ (Kd.R_below (kR HO153) hb); have n2_ := aS_ (Kd.R_lower (Kd.R_new' ho57 (Kd.R_lt (kR HO_4))) (below_size (kB1 HB GE139))); have n3_ := aS_ (blk_below (g := gb139) (o := .cells #[.int .i64 a0_0, .slice A0_1 l0_1.length c0_1] 53 (0, 0)) (kb BK139) hb); have n4_ := aS_ (below_step (kB1 HB GE139) hb); clear HO_4; clear HO153; clear BK139; clear HB; have HO_4 := n0_; have HO153 := n1_; have HO156 := n2_; have BK139 := n3_; have HB := n4_; clear n0_ n1_ n2_ n3_ n4_; clear hb ho57))
         go_loopg [8] k1 (fun kq v8 w' => ∃ (x7_2 : List Bool) (x8_2 : List Int), Aside0 (trees_Shape.l1 kq x4_1 x7_2 x8_2 a0_0 l0_1 = some (r1, r2)) ∧ Aside0 (kq ≤ k1) ∧ Aside0 (Kd.R (Kd.int .i64) 3 w' w.heap.size (fun k_ => some k_ ≠ (v8 : Value).ownBlock) v141 x4_1) ∧ Aside0 (Kd.R Kd.bool 4 w' w.heap.size (fun _ => True) v152 x7_2) ∧ Aside0 (Kd.R (Kd.int .i64) 3 w' w.heap.size (fun k_ => some k_ ≠ (v141 : Value).ownBlock) v8 x8_2) ∧ Aside0 (w'.heap[gb139]? = some (.cells #[.int .i64 a0_0, (.slice A0_1 l0_1.length c0_1)] 53 (0, 0))) ∧ Aside0 (Below w.heap.size w w'))
         case atStart => exact ⟨(y151), (y154), H', ⟨Nat.le_refl _⟩, ⟨by (with_reducible repeat (first | apply Kd.R_alloc | apply Kd.R_drewN | apply Kd.R_drew)); exact Kd.R_mono HO_4.out (fun _ hk => hk.2)⟩, ⟨kR HO153⟩, ⟨by (with_reducible repeat (first | apply Kd.R_alloc | apply Kd.R_drewN | apply Kd.R_drew)); exact Kd.R_mono HO156.out (fun _ hk => hk.2)⟩, ⟨kb BK139⟩, ⟨kB1 HB GE139⟩⟩
         case round =>
          clear H'
          try clear c1; try clear p1; try clear q1; try clear hx1; try clear c2; try clear c2b0; try clear c2b1; try clear c2b2; try clear p2; try clear q2; try clear hx2; try clear hf2; try clear c4; try clear c5; try clear c5b0; try clear c5b1; try clear c6; try clear c6b0; try clear c6b1; try clear p6; try clear c7; try clear c12; try clear c12b0; try clear c13; try clear c13b0; try clear c14; try clear c14b0; try clear p14; try clear q14; try clear hx14; try clear c16; try clear c18; try clear c19; try clear c19b0; try clear c20; try clear c20b0; try clear p21; try clear q21; try clear hx21; try clear hf21; try clear c22; try clear c22b0; try clear c23; try clear c23b0; try clear p24; try clear q24; try clear hx24; try clear hf24; try clear c26; try clear c40; try clear c47; try clear c51; try clear c51b0; try clear c51b1; try clear c52; try clear c52b0; try clear c52b1; try clear hcz11; try clear hcz27; try clear hcz28; try clear hcz30; try clear hcz32; try clear hcz36; try clear hcz41; try clear hcz42; try clear hcz44; try clear hcz48; try clear hcz49; try clear hcz4; try clear hcz53; try clear hcz8; try clear hx143_0; try clear hx143_1; try clear hx143_2; try clear hx143_3; try clear hx143_4; try clear hx143_5; try clear hx143_6; try clear hx143_7; try clear hx147_0; try clear hx149_0; try clear hx21_0; try clear hx24_0; try clear p143; try clear p147; try clear p149; try clear q143; try clear q147; try clear q149
          obtain ⟨x7_2, x8_2, HA, HK2, HO_4, HO_7, HO_8, BK139, HB⟩ := hrel
          cases gk with
          | zero => exact absurd HA.out (by simp [trees_Shape.l1])
          | succ k2 =>
           have H := HA.out
           clear HA
           simp only [trees_Shape.l1] at H
           by_cases c58 : (x8_2.length : Int) > 0
           ·rw [if_pos c58] at H
            have c58b0 := decide_eq_true c58
            have c58b1 : decide (0 < x8_2.length) = true := decide_eq_true (by omega)
            clear c58
            obtain ⟨ji59, hji59⟩ : ∃ j_ : Int, (wrap64 ((x8_2.length : Int) - 1)) = j_ := ⟨_, rfl⟩
            replace H : (if 0 ≤ (ji59) then (if (ji59) < (x8_2.length : Int) then (if (ji59) ≤ (x8_2.length : Int) then ((some (x8_2.take ((ji59) : Int).toNat : List Int)).bind fun y158 => (if 0 ≤ (rd x8_2 (ji59)) then (if (rd x8_2 (ji59)) < (x7_2.length : Int) then (if rdOf false x7_2 (rd x8_2 (ji59)) = true then (trees_Shape.l1 k2 x4_1 x7_2 y158 a0_0 l0_1) else ((some (x7_2.set ((rd x8_2 (ji59)) : Int).toNat true : List Bool)).bind fun y162 => (if (rd x8_2 (ji59)) < (l0_1.length : Int) then ((trees_inner.f ((rd_T71 l0_1 (rd x8_2 (ji59))).f0) ((rd_T71 l0_1 (rd x8_2 (ji59))).f1) ((rd_T71 l0_1 (rd x8_2 (ji59))).f2) ((rd_T71 l0_1 (rd x8_2 (ji59))).f3) ((rd_T71 l0_1 (rd x8_2 (ji59))).f4) ((rd_T71 l0_1 (rd x8_2 (ji59))).f5) ((rd_T71 l0_1 (rd x8_2 (ji59))).f6) ((rd_T71 l0_1 (rd x8_2 (ji59))).f7)).bind fun t165 => (if t165 = true then ((some (([(rd_T71 l0_1 (rd x8_2 (ji59))).f6, (rd_T71 l0_1 (rd x8_2 (ji59))).f7] : List Int) : List Int)).bind fun y166 => (if y158.length + y166.length < 17592186044416 then (trees_Shape.l1 k2 x4_1 y162 (y158 ++ y166) a0_0 l0_1) else (none))) else (trees_Shape.l1 k2 x4_1 y162 y158 a0_0 l0_1))) else (none)))) else (none)) else (none))) else (none)) else (none)) else (none)) = some (r1, r2) := by first | (rw [hji59] at H; exact H) | (simp only [hji59] at H ⊢; exact H)
            have hji59w : (IntKind.i64.wrap ((x8_2.length : Int) - 1)) = ji59 := (i64_w _).trans hji59
            by_cases c60 : 0 ≤ (ji59)
            ·rw [if_pos c60] at H
             have c60b0 := decide_eq_true c60
             clear c60
             by_cases c61 : (ji59) < (x8_2.length : Int)
             ·rw [if_pos c61] at H
              have c61b0 := decide_eq_true c61
              clear c61
              by_cases c62 : (ji59) ≤ (x8_2.length : Int)
              ·rw [if_pos c62] at H
               have c62b0 := eq_true c62
               have c62b1 := decide_eq_true c62
               clear c62
               obtain ⟨y158, hy158⟩ : ∃ y_ : List Int, y_ = (x8_2.take ((ji59) : Int).toNat) := ⟨_, rfl⟩
               (try replace H := bS_ H); rw [← hy158] at H; try dsimp only at H
               have Ny158 := aS_ hy158
               clear hy158
               by_cases c63 : 0 ≤ (rd x8_2 (ji59))
               ·rw [if_pos c63] at H
                have c63b0 := decide_eq_true c63
                clear c63
                by_cases c64 : (rd x8_2 (ji59)) < (x7_2.length : Int)
                ·rw [if_pos c64] at H
                 have c64b0 := decide_eq_true c64
                 clear c64
                 obtain ⟨bq65, hbq65⟩ : ∃ b_ : Bool, b_ = (rdOf false x7_2 (rd x8_2 (ji59))) := ⟨_, rfl⟩
                 replace H : (if bq65 = true then (trees_Shape.l1 k2 x4_1 x7_2 y158 a0_0 l0_1) else ((some (x7_2.set ((rd x8_2 (ji59)) : Int).toNat true : List Bool)).bind fun y162 => (if (rd x8_2 (ji59)) < (l0_1.length : Int) then ((trees_inner.f ((rd_T71 l0_1 (rd x8_2 (ji59))).f0) ((rd_T71 l0_1 (rd x8_2 (ji59))).f1) ((rd_T71 l0_1 (rd x8_2 (ji59))).f2) ((rd_T71 l0_1 (rd x8_2 (ji59))).f3) ((rd_T71 l0_1 (rd x8_2 (ji59))).f4) ((rd_T71 l0_1 (rd x8_2 (ji59))).f5) ((rd_T71 l0_1 (rd x8_2 (ji59))).f6) ((rd_T71 l0_1 (rd x8_2 (ji59))).f7)).bind fun t165 => (if t165 = true then ((some (([(rd_T71 l0_1 (rd x8_2 (ji59))).f6, (rd_T71 l0_1 (rd x8_2 (ji59))).f7] : List Int) : List Int)).bind fun y166 => (if y158.length + y166.length < 17592186044416 then (trees_Shape.l1 k2 x4_1 y162 (y158 ++ y166) a0_0 l0_1) else (none))) else (trees_Shape.l1 k2 x4_1 y162 y158 a0_0 l0_1))) else (none)))) = some (r1, r2) := by rw [← hbq65] at H; exact H
                 have Nbq65 := aS_ hbq65
                 clear hbq65
                 by_cases c66 : bq65 = true
                 ·subst c66
                  rw [if_pos rfl] at H
                  have H' := aS_ H
                  clear H
                  obtain ⟨Ao67, co67, eo67⟩ := Kd.R_slice HO_8.out
                  subst eo67
                  have p157 : 0 ≤ ((ji59) : Int) := of_decide_eq_true ka
                  have q157 : (ji59) < (x8_2.length : Int) := of_decide_eq_true ka
                  obtain ⟨ad157, e157, hx157_0⟩ := Kd.at_int (Kd.R_reads' HO_8.out).2.2 (ji59) p157 q157
                  cases e157
                  replace p157 := eq_true p157
                  replace q157 := eq_true q157
                  have q68 : ((ji59) : Int) ≤ ((x8_2.length : Int) : Int) := of_decide_eq_true ka
                  obtain ⟨i068, hi068, _, hsz68, _⟩ := info_parts info3
                  have hcut68 := cut_to (P := Try.prog) 54 3 .i64 Try.underlying54 hi068 (some ad157) x8_2.length co67 (ji59) (of_decide_eq_true ka) q68 (Kd.R_reads' HO_8.out).2.1
                  have hr68 := Kd.R_take (m := ((ji59) : Int).toNat) HO_8.out (by omega)
                  have hy68 : y158.length = ((ji59) : Int).toNat := (by rw [Ny158.out, List.length_take]; omega)
                  rw [← Ny158.out] at hr68
                  rw [← hy68] at hr68 hcut68
                  clear hy68 hi068 hsz68 HO_8
                  have HO160 := aS_ hr68
                  clear hr68
                  replace q68 := eq_true q68
                  obtain ⟨Ao69, co69, eo69⟩ := Kd.R_slice HO_7.out
                  subst eo69
                  have p161 : 0 ≤ ((rd x8_2 (ji59)) : Int) := of_decide_eq_true ka
                  have q161 : (rd x8_2 (ji59)) < (x7_2.length : Int) := of_decide_eq_true ka
                  obtain ⟨ad161, e161, hx161_0⟩ := Kd.at_bool (Kd.R_reads' HO_7.out).2.2 (rd x8_2 (ji59)) p161 q161
                  (try rw [← Nbq65.out] at hx161_0)
                  cases e161
                  replace p161 := eq_true p161
                  replace q161 := eq_true q161
                  go_wp2
                  go_roundg k2
                  case measure => have := HK1.out; have := HK2.out; omega
                  case rel => exact ⟨(x7_2), (y158), H', ⟨by have := HK1.out; have := HK2.out; omega⟩, ⟨kR HO_4⟩, ⟨kR HO_7⟩, ⟨kR HO160⟩, ⟨kb BK139⟩, ⟨kB1 HB GE139⟩⟩
                 ·replace c66 := Bool.eq_false_iff.mpr c66
                  subst c66
                  rw [if_neg (show ¬ (false = true) by decide)] at H
                  obtain ⟨y162, hy162⟩ : ∃ y_ : List Bool, y_ = (x7_2.set ((rd x8_2 (ji59)) : Int).toNat true) := ⟨_, rfl⟩
                  (try replace H := bS_ H); rw [← hy162] at H; try dsimp only at H
                  have Ny162 := aS_ hy162
                  clear hy162
                  by_cases c71 : (rd x8_2 (ji59)) < (l0_1.length : Int)
                  ·rw [if_pos c71] at H
                   have c71b0 := decide_eq_true c71
                   clear c71
                   replace H := Option.bind_eq_some_iff.mp H
                   obtain ⟨t165, A720, H⟩ := H
                   try dsimp only at H
                   have A72 := aS_ A720
                   clear A720
                   by_cases c73 : t165 = true
                   ·subst c73
                    rw [if_pos rfl] at H
                    obtain ⟨y166, hy166⟩ : ∃ y_ : List Int, y_ = (([(rd_T71 l0_1 (rd x8_2 (ji59))).f6, (rd_T71 l0_1 (rd x8_2 (ji59))).f7] : List Int)) := ⟨_, rfl⟩
                    (try replace H := bS_ H); rw [← hy166] at H; try dsimp only at H
                    have Ny166 := aS_ hy166
                    clear hy166
                    by_cases c74 : y158.length + y166.length < 17592186044416
                    ·rw [if_pos c74] at H
                     have LMc74 := aS_ c74
                     clear c74
                     obtain ⟨y169, hy169⟩ : ∃ y_ : List Int, y_ = (y158 ++ y166) := ⟨_, rfl⟩
                     (try replace H := bS_ H); rw [← hy169] at H; try dsimp only at H
                     have Ny169 := aS_ hy169
                     clear hy169
                     have H' := aS_ H
                     clear H
                     obtain ⟨Ao75, co75, eo75⟩ := Kd.R_slice HO_8.out
                     subst eo75
                     have p157 : 0 ≤ ((ji59) : Int) := of_decide_eq_true ka
                     have q157 : (ji59) < (x8_2.length : Int) := of_decide_eq_true ka
                     obtain ⟨ad157, e157, hx157_0⟩ := Kd.at_int (Kd.R_reads' HO_8.out).2.2 (ji59) p157 q157
                     cases e157
                     replace p157 := eq_true p157
                     replace q157 := eq_true q157
                     have q76 : ((ji59) : Int) ≤ ((x8_2.length : Int) : Int) := of_decide_eq_true ka
                     obtain ⟨i076, hi076, _, hsz76, _⟩ := info_parts info3
                     have hcut76 := cut_to (P := Try.prog) 54 3 .i64 Try.underlying54 hi076 (some ad157) x8_2.length co75 (ji59) (of_decide_eq_true ka) q76 (Kd.R_reads' HO_8.out).2.1
                     have hr76 := Kd.R_take (m := ((ji59) : Int).toNat) HO_8.out (by omega)
                     have hy76 : y158.length = ((ji59) : Int).toNat := (by rw [Ny158.out, List.length_take]; omega)
                     rw [← Ny158.out] at hr76
                     rw [← hy76] at hr76 hcut76
                     clear hy76 hi076 hsz76 HO_8
                     have HO160 := aS_ hr76
                     clear hr76
                     replace q76 := eq_true q76
                     obtain ⟨Ao77, co77, eo77⟩ := Kd.R_slice HO_7.out
                     subst eo77
                     have p161 : 0 ≤ ((rd x8_2 (ji59)) : Int) := of_decide_eq_true ka
                     have q161 : (rd x8_2 (ji59)) < (x7_2.length : Int) := of_decide_eq_true ka
                     obtain ⟨ad161, e161, hx161_0⟩ := Kd.at_bool (Kd.R_reads' HO_7.out).2.2 (rd x8_2 (ji59)) p161 q161
                     (try rw [← Nbq65.out] at hx161_0)
                     cases e161
                     replace p161 := eq_true p161
                     replace q161 := eq_true q161
                     have p70 : 0 ≤ ((rd x8_2 (ji59)) : Int) := of_decide_eq_true ka
                     have q70 : ((rd x8_2 (ji59)) : Int) < ((x7_2.length : Int) : Int) := of_decide_eq_true ka
                     obtain ⟨go70, co70, eo70, gb70, gl70, cl70, HG70⟩ := Kd.R_form HO_7.out (by omega)
                     (first | cases eo70 | (injection eo70 with ea_ en_ ec_; (first | subst ea_ | (injection ea_ with ea_; subst ea_)); subst ec_; clear en_))
                     have GB70 := aS_ gb70
                     have GG70 := aS_ HG70
                     clear gb70 gl70 HG70
                     (first | simp only [add_plain] at hx161_0 | skip)
                     obtain ⟨hx70_0, hf70_0⟩ := Kd.R_celln false HO_7.out ((rd x8_2 (ji59)) : Int) p70 q70
                     replace p70 := eq_true p70
                     replace q70 := eq_true q70
                     have HP78 := Kd.R_putg HO_7.out ((rd x8_2 (ji59)) : Int) true
                     go_wp2_with (first | ((with_reducible refine gate_store (t := 4) (p := 78) rfl ?_); refine store_event (t := 4) (p := 78) (v := ?vo_w79) (w1 := (wr.setCell ⟨go70, ((rd x8_2 (ji59)) : Int).toNat, none⟩ (.bool true))) ?hg ?ho ?hn ?hr ?_; (case ho => rfl); (case hg => rfl); (case hn => rfl); (case hr => first | (go_simp; done) | (go_simp; rfl)); intro w79 hw; have hg : wr.grownBy w79 (some go70) := (by rw [hw]; exact HP78.2); have hp_ : Kd.R Kd.bool 4 w79 w.heap.size (fun _ => True) (.slice (some ⟨go70, 0, none⟩) x7_2.length co77) y162 := (by rw [hw, Ny162.out]; exact HP78.1); clear HP78; have n0_ := aS_ (Kd.R_over' (v := (.slice (some ⟨go70, 0, none⟩) x7_2.length co77)) (kR HO_4) (Kd.R_typed HO_7.out) (by decide) hg); have n1_ := aS_ (hp_); have n2_ := aS_ (Kd.R_over' (v := (.slice (some ⟨go70, 0, none⟩) x7_2.length co77)) (kR HO160) (Kd.R_typed HO_7.out) (by decide) hg); have n3_ := aS_ (blk_grown (g := gb139) (o := .cells #[.int .i64 a0_0, .slice A0_1 l0_1.length c0_1] 53 (0, 0)) (kb BK139) hg (Kd.R_ne HO_7.out BK139.out (by decide))); have n4_ := aS_ ((by rw [hw]; exact below_set (HB.out) GB70.out : Below w.heap.size w w79)); clear HO_4; clear HO_7; clear HO160; clear BK139; clear HB; have HO_4 := n0_; have HO_7 := n1_; have HO160 := n2_; have BK139 := n3_; have HB := n4_; clear n0_ n1_ n2_ n3_ n4_; clear hg hw hp_; have hcz80 := blk2 (w := w79) BK139.out; have p163 : 0 ≤ ((rd x8_2 (ji59)) : Int) := of_decide_eq_true ka; have q163 : (rd x8_2 (ji59)) < (l0_1.length : Int) := of_decide_eq_true ka; obtain ⟨ad163, A163_4, c163_4, e163, hx163_0, hx163_1, hx163_2, hx163_3, hx163_4, hx163_5, hx163_6, hx163_7, hl163_4, hi163_4⟩ := at_T71 HR0_1.out (rd x8_2 (ji59)) p163 q163; cases e163; replace hx163_0 := cB_ HB.out hx163_0; replace hx163_1 := cB_ HB.out hx163_1; replace hx163_2 := cB_ HB.out hx163_2; replace hx163_3 := cB_ HB.out hx163_3; replace hx163_4 := cB_ HB.out hx163_4; replace hx163_5 := cB_ HB.out hx163_5; replace hx163_6 := cB_ HB.out hx163_6; replace hx163_7 := cB_ HB.out hx163_7; have HR163_4 := aS_ hi163_4; have HC163_4 := aS_ hl163_4; clear hi163_4 hl163_4; replace p163 := eq_true p163; replace q163 := eq_true q163) | ((with_reducible refine gate_dst (N := 10) rfl ?_); refine box_event ?hg (N := 10) ?hd (cs := #[.int .u8 0, .int .i64 0, .int .i64 0, .float .f64 0, .slice none 0 0, .int .u8 0, .int .i64 0, .int .i64 0]) (t := 71) ?hr ?_; (case hd => rfl); (case hg => rfl); (case hr => first | (go_simp; done) | (go_simp; rfl)); intro gb164 hg w81 hbox hb; have n0_ := aS_ (Kd.R_below (kR HO_4) hb); have n1_ := aS_ (Kd.R_below (kR HO_7) hb); have n2_ := aS_ (Kd.R_below (kR HO160) hb); have n3_ := aS_ (blk_below (g := gb139) (o := .cells #[.int .i64 a0_0, .slice (some ad163) l0_1.length c0_1] 53 (0, 0)) (kb BK139) hb); have n4_ := aS_ (below_step (kB1 HB GE139) hb); have n5_ := aS_ (hbox); have n6_ := aS_ ((kg hg (kB1 HB GE139) : w.heap.size ≤ gb164)); have n7_ := aS_ ((kg hg (kB1 HB GE139) : w.heap.size ≤ gb164)); have n8_ := aS_ ((by rw [hg]; exact Nat.ne_of_lt (blk_lt (g := gb139) (o := .cells #[.int .i64 a0_0, .slice (some ad163) l0_1.length c0_1] 53 (0, 0)) (kb BK139)) : gb139 ≠ gb164)); have n9_ := aS_ ((by rw [hg]; exact Nat.ne_of_gt (blk_lt (g := gb139) (o := .cells #[.int .i64 a0_0, .slice (some ad163) l0_1.length c0_1] 53 (0, 0)) (kb BK139)) : gb164 ≠ gb139)); clear HO_4; clear HO_7; clear HO160; clear BK139; clear HB; have HO_4 := n0_; have HO_7 := n1_; have HO160 := n2_; have BK139 := n3_; have HB := n4_; have BK164 := n5_; have GW164 := n6_; have GE164 := n7_; have NB139_164 := n8_; have NB164_139 := n9_; clear n0_ n1_ n2_ n3_ n4_ n5_ n6_ n7_ n8_ n9_; clear hb hbox hg; have hnb82 := NB164_139.out; have hnc82 := NB139_164.out; have hcz83 := blk8 (w := w81) BK164.out) | ((with_reducible refine gate_callee (f := 69) rfl ?_); refine goesL_ (some 85) rfl rfl Try.func69 (by kernel_rfl) rfl #[.agg #[.int .u8 ((rd_T71 l0_1 (rd x8_2 (ji59))).f0), .int .i64 ((rd_T71 l0_1 (rd x8_2 (ji59))).f1), .int .i64 ((rd_T71 l0_1 (rd x8_2 (ji59))).f2), .float .f64 ((rd_T71 l0_1 (rd x8_2 (ji59))).f3), .slice A163_4 ((rd_T71 l0_1 (rd x8_2 (ji59))).f4).length c163_4, .int .u8 ((rd_T71 l0_1 (rd x8_2 (ji59))).f5), .int .i64 ((rd_T71 l0_1 (rd x8_2 (ji59))).f6), .int .i64 ((rd_T71 l0_1 (rd x8_2 (ji59))).f7)]] rfl (by (try simp only [List.map_toArray, List.map_cons, List.map_nil]); first | done | (simp only [hji59]; rfl) | rfl | (simp only [List.length_drop, List.length_take]; rfl)) ?_; (with_reducible refine (trees_inner.calls ((rd_T71 l0_1 (rd x8_2 (ji59))).f0) ((rd_T71 l0_1 (rd x8_2 (ji59))).f1) ((rd_T71 l0_1 (rd x8_2 (ji59))).f2) ((rd_T71 l0_1 (rd x8_2 (ji59))).f3) _ _ ((rd_T71 l0_1 (rd x8_2 (ji59))).f4) ((rd_T71 l0_1 (rd x8_2 (ji59))).f5) ((rd_T71 l0_1 (rd x8_2 (ji59))).f6) ((rd_T71 l0_1 (rd x8_2 (ji59))).f7) true _ ?side1 ?side2 A72.out).mono ?_); (case side1 => exact Kd.C_below HR163_4.out (kB2 HB GE139 GE164)); (case side2 => exact HC163_4.out); rintro e w84 ⟨rfl, hb⟩; refine ⟨_, rfl, ?_⟩; have n0_ := aS_ (Kd.R_below (by (with_reducible repeat (first | apply Kd.R_alloc | apply Kd.R_drewN | apply Kd.R_drew)); exact (Kd.R_mono (Kd.R_far8 (Kd.R_types HO_4.out BK164.out (by decide)) (fun _ hk => hk.2) _ _ _ _ _ _ _ _) (fun _ h_ => h_.1))) hb); have n1_ := aS_ (Kd.R_below (by (with_reducible repeat (first | apply Kd.R_alloc | apply Kd.R_drewN | apply Kd.R_drew)); exact (Kd.R_mono (Kd.R_far8 (Kd.R_types HO_7.out BK164.out (by decide)) (fun _ hk => hk.2) _ _ _ _ _ _ _ _) (fun _ h_ => h_.1))) hb); have n2_ := aS_ (Kd.R_below (by (with_reducible repeat (first | apply Kd.R_alloc | apply Kd.R_drewN | apply Kd.R_drew)); exact (Kd.R_mono (Kd.R_far8 (Kd.R_types HO160.out BK164.out (by decide)) (fun _ hk => hk.2) _ _ _ _ _ _ _ _) (fun _ h_ => h_.1))) hb); have n3_ := aS_ (blk_below (g := gb139) (o := .cells #[.int .i64 a0_0, .slice (some ad163) l0_1.length c0_1] 53 (0, 0)) (by (with_reducible repeat (first | refine blk_drewN ?_ _ | refine blk_drew ?_ | refine blk_alloc ?_ _)); refine blk_far8 ?_ NB139_164.out _ _ _ _ _ _ _ _; (with_reducible repeat (first | refine blk_drewN ?_ _ | refine blk_drew ?_ | refine blk_alloc ?_ _)); exact BK139.out) hb); have n4_ := aS_ (blk_below (g := gb164) (o := .cells #[.int .u8 ((rd_T71 l0_1 (rd x8_2 (ji59))).f0), .int .i64 ((rd_T71 l0_1 (rd x8_2 (ji59))).f1), .int .i64 ((rd_T71 l0_1 (rd x8_2 (ji59))).f2), .float .f64 ((rd_T71 l0_1 (rd x8_2 (ji59))).f3), .slice A163_4 ((rd_T71 l0_1 (rd x8_2 (ji59))).f4).length c163_4, .int .u8 ((rd_T71 l0_1 (rd x8_2 (ji59))).f5), .int .i64 ((rd_T71 l0_1 (rd x8_2 (ji59))).f6), .int .i64 ((rd_T71 l0_1 (rd x8_2 (ji59))).f7)] 71 (0, 0)) (by (with_reducible repeat (first | refine blk_drewN ?_ _ | refine blk_drew ?_ | refine blk_alloc ?_ _)); exact blk_put8 (kb BK164) _ _ _ _ _ _ _ _) hb); have n5_ := aS_ (below_step (kB2 HB GE139 GE164) hb); clear HO_4; clear HO_7; clear HO160; clear BK139; clear BK164; clear HB; have HO_4 := n0_; have HO_7 := n1_; have HO160 := n2_; have BK139 := n3_; have BK164 := n4_; have HB := n5_; clear n0_ n1_ n2_ n3_ n4_ n5_; (try clear hb); (try clear hb2); (try clear hk); (try clear hi); have hcz85 := blk8 (w := w84) BK164.out) | ((with_reducible refine gate_dst (N := 91) rfl ?_); refine Kd.R_lit (Kd.int .i64) _ 3 ?hg (N := 91) ?hd (xs := ([(rd_T71 l0_1 (rd x8_2 (ji59))).f6, (rd_T71 l0_1 (rd x8_2 (ji59))).f7] : List Int)) (inner := [.int .i64 ((rd_T71 l0_1 (rd x8_2 (ji59))).f6), .int .i64 ((rd_T71 l0_1 (rd x8_2 (ji59))).f7)]) (ok := fun _ => True) (okp := fun _ => True) ?hr ?hp (fun _ hk => hk) trivial (Below.refl _ _) (Nat.le_refl _) (by simp) ?_; (case hd => rfl); (case hg => rfl); (case hr => first | (go_simp; done) | (go_simp; rfl)); (case hp => exact (Reps.one (show Kd.M (Kd.int .i64) _ _ _ ((rd_T71 l0_1 (rd x8_2 (ji59))).f6) [.int .i64 ((rd_T71 l0_1 (rd x8_2 (ji59))).f6)] from rfl) (Reps.one (show Kd.M (Kd.int .i64) _ _ _ ((rd_T71 l0_1 (rd x8_2 (ji59))).f7) [.int .i64 ((rd_T71 l0_1 (rd x8_2 (ji59))).f7)] from rfl) (Reps.none _ _)))); intro v167 w86 ho87 hb hg_ hnew_; clear hg_ hnew_; (first | rw [← Ny166.out] at ho87 | (simp only [Int.reduceToNat] at ho87; rw [← Ny166.out] at ho87)); have n0_ := aS_ (Kd.R_elder' (kR HO_4) (Kd.R_base ho87) hb); have n1_ := aS_ (Kd.R_below (kR HO_7) hb); have n2_ := aS_ (Kd.R_elder' (kR HO160) (Kd.R_base ho87) hb); have n3_ := aS_ (Kd.R_lower (Kd.R_new' (Kd.R_new' ho87 (Kd.R_lt (kR HO_4))) (Kd.R_lt (kR HO160))) (below_size (kB2 HB GE139 GE164))); have n4_ := aS_ (blk_below (g := gb139) (o := .cells #[.int .i64 a0_0, .slice (some ad163) l0_1.length c0_1] 53 (0, 0)) (kb BK139) hb); have n5_ := aS_ (blk_below (g := gb164) (o := .cells #[.int .u8 ((rd_T71 l0_1 (rd x8_2 (ji59))).f0), .int .i64 ((rd_T71 l0_1 (rd x8_2 (ji59))).f1), .int .i64 ((rd_T71 l0_1 (rd x8_2 (ji59))).f2), .float .f64 ((rd_T71 l0_1 (rd x8_2 (ji59))).f3), .slice A163_4 ((rd_T71 l0_1 (rd x8_2 (ji59))).f4).length c163_4, .int .u8 ((rd_T71 l0_1 (rd x8_2 (ji59))).f5), .int .i64 ((rd_T71 l0_1 (rd x8_2 (ji59))).f6), .int .i64 ((rd_T71 l0_1 (rd x8_2 (ji59))).f7)] 71 (0, 0)) (kb BK164) hb); have n6_ := aS_ (below_step (kB2 HB GE139 GE164) hb); clear HO_4; clear HO_7; clear HO160; clear BK139; clear BK164; clear HB; have HO_4 := n0_; have HO_7 := n1_; have HO160 := n2_; have HO168 := n3_; have BK139 := n4_; have BK164 := n5_; have HB := n6_; clear n0_ n1_ n2_ n3_ n4_ n5_ n6_; clear hb ho87; obtain ⟨Ao89, co89, eo89⟩ := Kd.R_slice HO168.out; subst eo89) | ((with_reducible refine gate_builtin (b := .append) (xs := #[.tmp 86, .tmp 91]) rfl ?_); at_builtin; refine Kd.R_append_rows (Kd.int .i64) (w0 := w) w.heap.size rfl (.tmp 86) (.tmp 91) 54 3 (.int .i64 0) 8 rfl Try.underlying54 info3 rfl (by decide) (by omega) (.slice (some ad157) y158.length co75) y158 y166 _ _ _ (fun k_ => some k_ ≠ (v141 : Value).ownBlock ∧ some k_ ≠ (.slice Ao89 y166.length co89 : Value).ownBlock) (fun _ => False) rfl rfl ?aO ?aR (fun _ _ h => h) (fun _ h => h.elim) ?aF ?aB ?aS ?aL ?_; (case aR => repeat (first | exact (Kd.R_reads' HO168.out).2.2 | (with_reducible refine Kd.C_alloc ?_ _) | (with_reducible refine Kd.C_drewN ?_ _) | (with_reducible refine Kd.C_drew ?_))); (case aB => exact (kB2 HB GE139 GE164)); (case aF => exact (fun k_ hk => ⟨Kd.fresh' (Kd.R_lt (kR HO_4)) k_ hk, Kd.fresh' (Kd.R_lt (kR HO168)) k_ hk⟩)); (case aO => exact (kR HO160)); (case aS => exact (below_size (kB2 HB GE139 GE164))); (case aL => have := LMc74.out; omega); intro v170 w88 ho hb hg hat; rw [← Ny169.out] at ho; have n0_ := aS_ (Kd.R_after (ok := (fun k_ => some k_ ≠ (.slice Ao89 y166.length co89 : Value).ownBlock)) (by (with_reducible repeat (first | apply Kd.R_alloc | apply Kd.R_drewN | apply Kd.R_drew)); exact Kd.R_mono HO_4.out (fun _ hk => ⟨hk.2, hk.1⟩)) hg hat); have n1_ := aS_ (Kd.R_over' (kR HO_7) (Kd.R_typed (kR HO160)) (by decide) hg); have n2_ := aS_ (blk_grown (g := gb139) (o := .cells #[.int .i64 a0_0, .slice (some ad163) l0_1.length c0_1] 53 (0, 0)) (kb BK139) hg (Kd.R_ne HO160.out BK139.out (by decide))); have n3_ := aS_ (blk_grown (g := gb164) (o := .cells #[.int .u8 ((rd_T71 l0_1 (rd x8_2 (ji59))).f0), .int .i64 ((rd_T71 l0_1 (rd x8_2 (ji59))).f1), .int .i64 ((rd_T71 l0_1 (rd x8_2 (ji59))).f2), .float .f64 ((rd_T71 l0_1 (rd x8_2 (ji59))).f3), .slice A163_4 ((rd_T71 l0_1 (rd x8_2 (ji59))).f4).length c163_4, .int .u8 ((rd_T71 l0_1 (rd x8_2 (ji59))).f5), .int .i64 ((rd_T71 l0_1 (rd x8_2 (ji59))).f6), .int .i64 ((rd_T71 l0_1 (rd x8_2 (ji59))).f7)] 71 (0, 0)) (kb BK164) hg (Kd.R_ne HO160.out BK164.out (by decide))); have n4_ := aS_ (Kd.R_after (ok := (fun k_ => some k_ ≠ (v141 : Value).ownBlock)) (by (with_reducible repeat (first | apply Kd.R_alloc | apply Kd.R_drewN | apply Kd.R_drew)); exact Kd.R_mono HO168.out (fun _ hk => ⟨hk.1.2, hk.2⟩)) hg hat); have n5_ := aS_ (hb); have n6_ := aS_ (ho); clear HO_4; clear HO_7; clear BK139; clear BK164; clear HO168; clear HB; clear HO160; have HO_4 := n0_; have HO_7 := n1_; have BK139 := n2_; have BK164 := n3_; have HO168 := n4_; have HB := n5_; have HO171 := n6_; clear n0_ n1_ n2_ n3_ n4_ n5_ n6_; clear ho hb hg hat))
                     go_roundg k2
                     case measure => have := HK1.out; have := HK2.out; omega
                     case rel => exact ⟨(y162), (y169), H', ⟨by have := HK1.out; have := HK2.out; omega⟩, ⟨by (with_reducible repeat (first | apply Kd.R_alloc | apply Kd.R_drewN | apply Kd.R_drew)); exact Kd.R_mono HO_4.out (fun _ hk => hk.2)⟩, ⟨kR HO_7⟩, ⟨by (with_reducible repeat (first | apply Kd.R_alloc | apply Kd.R_drewN | apply Kd.R_drew)); exact Kd.R_mono HO171.out (fun _ hk => hk.1)⟩, ⟨kb BK139⟩, ⟨kB2 HB GE139 GE164⟩⟩
                    ·rw [if_neg c74] at H
                     exact absurd H (by simp)
                   ·replace c73 := Bool.eq_false_iff.mpr c73
                    subst c73
                    rw [if_neg (show ¬ (false = true) by decide)] at H
                    have H' := aS_ H
                    clear H
                    obtain ⟨Ao90, co90, eo90⟩ := Kd.R_slice HO_8.out
                    subst eo90
                    have p157 : 0 ≤ ((ji59) : Int) := of_decide_eq_true ka
                    have q157 : (ji59) < (x8_2.length : Int) := of_decide_eq_true ka
                    obtain ⟨ad157, e157, hx157_0⟩ := Kd.at_int (Kd.R_reads' HO_8.out).2.2 (ji59) p157 q157
                    cases e157
                    replace p157 := eq_true p157
                    replace q157 := eq_true q157
                    have q91 : ((ji59) : Int) ≤ ((x8_2.length : Int) : Int) := of_decide_eq_true ka
                    obtain ⟨i091, hi091, _, hsz91, _⟩ := info_parts info3
                    have hcut91 := cut_to (P := Try.prog) 54 3 .i64 Try.underlying54 hi091 (some ad157) x8_2.length co90 (ji59) (of_decide_eq_true ka) q91 (Kd.R_reads' HO_8.out).2.1
                    have hr91 := Kd.R_take (m := ((ji59) : Int).toNat) HO_8.out (by omega)
                    have hy91 : y158.length = ((ji59) : Int).toNat := (by rw [Ny158.out, List.length_take]; omega)
                    rw [← Ny158.out] at hr91
                    rw [← hy91] at hr91 hcut91
                    clear hy91 hi091 hsz91 HO_8
                    have HO160 := aS_ hr91
                    clear hr91
                    replace q91 := eq_true q91
                    obtain ⟨Ao92, co92, eo92⟩ := Kd.R_slice HO_7.out
                    subst eo92
                    have p161 : 0 ≤ ((rd x8_2 (ji59)) : Int) := of_decide_eq_true ka
                    have q161 : (rd x8_2 (ji59)) < (x7_2.length : Int) := of_decide_eq_true ka
                    obtain ⟨ad161, e161, hx161_0⟩ := Kd.at_bool (Kd.R_reads' HO_7.out).2.2 (rd x8_2 (ji59)) p161 q161
                    (try rw [← Nbq65.out] at hx161_0)
                    cases e161
                    replace p161 := eq_true p161
                    replace q161 := eq_true q161
                    have p70 : 0 ≤ ((rd x8_2 (ji59)) : Int) := of_decide_eq_true ka
                    have q70 : ((rd x8_2 (ji59)) : Int) < ((x7_2.length : Int) : Int) := of_decide_eq_true ka
                    obtain ⟨go70, co70, eo70, gb70, gl70, cl70, HG70⟩ := Kd.R_form HO_7.out (by omega)
                    (first | cases eo70 | (injection eo70 with ea_ en_ ec_; (first | subst ea_ | (injection ea_ with ea_; subst ea_)); subst ec_; clear en_))
                    have GB70 := aS_ gb70
                    have GG70 := aS_ HG70
                    clear gb70 gl70 HG70
                    (first | simp only [add_plain] at hx161_0 | skip)
                    obtain ⟨hx70_0, hf70_0⟩ := Kd.R_celln false HO_7.out ((rd x8_2 (ji59)) : Int) p70 q70
                    replace p70 := eq_true p70
                    replace q70 := eq_true q70
                    have HP93 := Kd.R_putg HO_7.out ((rd x8_2 (ji59)) : Int) true
                    go_wp2_with (first | ((with_reducible refine gate_store (t := 4) (p := 78) rfl ?_); refine store_event (t := 4) (p := 78) (v := ?vo_w94) (w1 := (wr.setCell ⟨go70, ((rd x8_2 (ji59)) : Int).toNat, none⟩ (.bool true))) ?hg ?ho ?hn ?hr ?_; (case ho => rfl); (case hg => rfl); (case hn => rfl); (case hr => first | (go_simp; done) | (go_simp; rfl)); intro w94 hw; have hg : wr.grownBy w94 (some go70) := (by rw [hw]; exact HP93.2); have hp_ : Kd.R Kd.bool 4 w94 w.heap.size (fun _ => True) (.slice (some ⟨go70, 0, none⟩) x7_2.length co92) y162 := (by rw [hw, Ny162.out]; exact HP93.1); clear HP93; have n0_ := aS_ (Kd.R_over' (v := (.slice (some ⟨go70, 0, none⟩) x7_2.length co92)) (kR HO_4) (Kd.R_typed HO_7.out) (by decide) hg); have n1_ := aS_ (hp_); have n2_ := aS_ (Kd.R_over' (v := (.slice (some ⟨go70, 0, none⟩) x7_2.length co92)) (kR HO160) (Kd.R_typed HO_7.out) (by decide) hg); have n3_ := aS_ (blk_grown (g := gb139) (o := .cells #[.int .i64 a0_0, .slice A0_1 l0_1.length c0_1] 53 (0, 0)) (kb BK139) hg (Kd.R_ne HO_7.out BK139.out (by decide))); have n4_ := aS_ ((by rw [hw]; exact below_set (HB.out) GB70.out : Below w.heap.size w w94)); clear HO_4; clear HO_7; clear HO160; clear BK139; clear HB; have HO_4 := n0_; have HO_7 := n1_; have HO160 := n2_; have BK139 := n3_; have HB := n4_; clear n0_ n1_ n2_ n3_ n4_; clear hg hw hp_; have hcz95 := blk2 (w := w94) BK139.out; have p163 : 0 ≤ ((rd x8_2 (ji59)) : Int) := of_decide_eq_true ka; have q163 : (rd x8_2 (ji59)) < (l0_1.length : Int) := of_decide_eq_true ka; obtain ⟨ad163, A163_4, c163_4, e163, hx163_0, hx163_1, hx163_2, hx163_3, hx163_4, hx163_5, hx163_6, hx163_7, hl163_4, hi163_4⟩ := at_T71 HR0_1.out (rd x8_2 (ji59)) p163 q163; cases e163; replace hx163_0 := cB_ HB.out hx163_0; replace hx163_1 := cB_ HB.out hx163_1; replace hx163_2 := cB_ HB.out hx163_2; replace hx163_3 := cB_ HB.out hx163_3; replace hx163_4 := cB_ HB.out hx163_4; replace hx163_5 := cB_ HB.out hx163_5; replace hx163_6 := cB_ HB.out hx163_6; replace hx163_7 := cB_ HB.out hx163_7; have HR163_4 := aS_ hi163_4; have HC163_4 := aS_ hl163_4; clear hi163_4 hl163_4; replace p163 := eq_true p163; replace q163 := eq_true q163) | ((with_reducible refine gate_dst (N := 10) rfl ?_); refine box_event ?hg (N := 10) ?hd (cs := #[.int .u8 0, .int .i64 0, .int .i64 0, .float .f64 0, .slice none 0 0, .int .u8 0, .int .i64 0, .int .i64 0]) (t := 71) ?hr ?_; (case hd => rfl); (case hg => rfl); (case hr => first | (go_simp; done) | (go_simp; rfl)); intro gb164 hg w96 hbox hb; have n0_ := aS_ (Kd.R_below (kR HO_4) hb); have n1_ := aS_ (Kd.R_below (kR HO_7) hb); have n2_ := aS_ (Kd.R_below (kR HO160) hb); have n3_ := aS_ (blk_below (g := gb139) (o := .cells #[.int .i64 a0_0, .slice (some ad163) l0_1.length c0_1] 53 (0, 0)) (kb BK139) hb); have n4_ := aS_ (below_step (kB1 HB GE139) hb); have n5_ := aS_ (hbox); have n6_ := aS_ ((kg hg (kB1 HB GE139) : w.heap.size ≤ gb164)); have n7_ := aS_ ((kg hg (kB1 HB GE139) : w.heap.size ≤ gb164)); have n8_ := aS_ ((by rw [hg]; exact Nat.ne_of_lt (blk_lt (g := gb139) (o := .cells #[.int .i64 a0_0, .slice (some ad163) l0_1.length c0_1] 53 (0, 0)) (kb BK139)) : gb139 ≠ gb164)); have n9_ := aS_ ((by rw [hg]; exact Nat.ne_of_gt (blk_lt (g := gb139) (o := .cells #[.int .i64 a0_0, .slice (some ad163) l0_1.length c0_1] 53 (0, 0)) (kb BK139)) : gb164 ≠ gb139)); clear HO_4; clear HO_7; clear HO160; clear BK139; clear HB; have HO_4 := n0_; have HO_7 := n1_; have HO160 := n2_; have BK139 := n3_; have HB := n4_; have BK164 := n5_; have GW164 := n6_; have GE164 := n7_; have NB139_164 := n8_; have NB164_139 := n9_; clear n0_ n1_ n2_ n3_ n4_ n5_ n6_ n7_ n8_ n9_; clear hb hbox hg; have hnb97 := NB164_139.out; have hnc97 := NB139_164.out; have hcz98 := blk8 (w := w96) BK164.out) | ((with_reducible refine gate_callee (f := 69) rfl ?_); refine goesL_ (some 85) rfl rfl Try.func69 (by kernel_rfl) rfl #[.agg #[.int .u8 ((rd_T71 l0_1 (rd x8_2 (ji59))).f0), .int .i64 ((rd_T71 l0_1 (rd x8_2 (ji59))).f1), .int .i64 ((rd_T71 l0_1 (rd x8_2 (ji59))).f2), .float .f64 ((rd_T71 l0_1 (rd x8_2 (ji59))).f3), .slice A163_4 ((rd_T71 l0_1 (rd x8_2 (ji59))).f4).length c163_4, .int .u8 ((rd_T71 l0_1 (rd x8_2 (ji59))).f5), .int .i64 ((rd_T71 l0_1 (rd x8_2 (ji59))).f6), .int .i64 ((rd_T71 l0_1 (rd x8_2 (ji59))).f7)]] rfl (by (try simp only [List.map_toArray, List.map_cons, List.map_nil]); first | done | (simp only [hji59]; rfl) | rfl | (simp only [List.length_drop, List.length_take]; rfl)) ?_; (with_reducible refine (trees_inner.calls ((rd_T71 l0_1 (rd x8_2 (ji59))).f0) ((rd_T71 l0_1 (rd x8_2 (ji59))).f1) ((rd_T71 l0_1 (rd x8_2 (ji59))).f2) ((rd_T71 l0_1 (rd x8_2 (ji59))).f3) _ _ ((rd_T71 l0_1 (rd x8_2 (ji59))).f4) ((rd_T71 l0_1 (rd x8_2 (ji59))).f5) ((rd_T71 l0_1 (rd x8_2 (ji59))).f6) ((rd_T71 l0_1 (rd x8_2 (ji59))).f7) false _ ?side1 ?side2 A72.out).mono ?_); (case side1 => exact Kd.C_below HR163_4.out (kB2 HB GE139 GE164)); (case side2 => exact HC163_4.out); rintro e w99 ⟨rfl, hb⟩; refine ⟨_, rfl, ?_⟩; have n0_ := aS_ (Kd.R_below (by (with_reducible repeat (first | apply Kd.R_alloc | apply Kd.R_drewN | apply Kd.R_drew)); exact (Kd.R_mono (Kd.R_far8 (Kd.R_types HO_4.out BK164.out (by decide)) (fun _ hk => hk.2) _ _ _ _ _ _ _ _) (fun _ h_ => h_.1))) hb); have n1_ := aS_ (Kd.R_below (by (with_reducible repeat (first | apply Kd.R_alloc | apply Kd.R_drewN | apply Kd.R_drew)); exact (Kd.R_mono (Kd.R_far8 (Kd.R_types HO_7.out BK164.out (by decide)) (fun _ hk => hk.2) _ _ _ _ _ _ _ _) (fun _ h_ => h_.1))) hb); have n2_ := aS_ (Kd.R_below (by (with_reducible repeat (first | apply Kd.R_alloc | apply Kd.R_drewN | apply Kd.R_drew)); exact (Kd.R_mono (Kd.R_far8 (Kd.R_types HO160.out BK164.out (by decide)) (fun _ hk => hk.2) _ _ _ _ _ _ _ _) (fun _ h_ => h_.1))) hb); have n3_ := aS_ (blk_below (g := gb139) (o := .cells #[.int .i64 a0_0, .slice (some ad163) l0_1.length c0_1] 53 (0, 0)) (by (with_reducible repeat (first | refine blk_drewN ?_ _ | refine blk_drew ?_ | refine blk_alloc ?_ _)); refine blk_far8 ?_ NB139_164.out _ _ _ _ _ _ _ _; (with_reducible repeat (first | refine blk_drewN ?_ _ | refine blk_drew ?_ | refine blk_alloc ?_ _)); exact BK139.out) hb); have n4_ := aS_ (blk_below (g := gb164) (o := .cells #[.int .u8 ((rd_T71 l0_1 (rd x8_2 (ji59))).f0), .int .i64 ((rd_T71 l0_1 (rd x8_2 (ji59))).f1), .int .i64 ((rd_T71 l0_1 (rd x8_2 (ji59))).f2), .float .f64 ((rd_T71 l0_1 (rd x8_2 (ji59))).f3), .slice A163_4 ((rd_T71 l0_1 (rd x8_2 (ji59))).f4).length c163_4, .int .u8 ((rd_T71 l0_1 (rd x8_2 (ji59))).f5), .int .i64 ((rd_T71 l0_1 (rd x8_2 (ji59))).f6), .int .i64 ((rd_T71 l0_1 (rd x8_2 (ji59))).f7)] 71 (0, 0)) (by (with_reducible repeat (first | refine blk_drewN ?_ _ | refine blk_drew ?_ | refine blk_alloc ?_ _)); exact blk_put8 (kb BK164) _ _ _ _ _ _ _ _) hb); have n5_ := aS_ (below_step (kB2 HB GE139 GE164) hb); clear HO_4; clear HO_7; clear HO160; clear BK139; clear BK164; clear HB; have HO_4 := n0_; have HO_7 := n1_; have HO160 := n2_; have BK139 := n3_; have BK164 := n4_; have HB := n5_; clear n0_ n1_ n2_ n3_ n4_ n5_; (try clear hb); (try clear hb2); (try clear hk); (try clear hi)))
                    go_roundg k2
                    case measure => have := HK1.out; have := HK2.out; omega
                    case rel => exact ⟨(y162), (y158), H', ⟨by have := HK1.out; have := HK2.out; omega⟩, ⟨kR HO_4⟩, ⟨kR HO_7⟩, ⟨kR HO160⟩, ⟨kb BK139⟩, ⟨kB2 HB GE139 GE164⟩⟩
                  ·rw [if_neg c71] at H
                   exact absurd H (by simp)
                ·rw [if_neg c64] at H
                 exact absurd H (by simp)
               ·rw [if_neg c63] at H
                exact absurd H (by simp)
              ·rw [if_neg c62] at H
               exact absurd H (by simp)
             ·rw [if_neg c61] at H
              exact absurd H (by simp)
            ·rw [if_neg c60] at H
             exact absurd H (by simp)
           ·rw [if_neg c58] at H
            have c58b0 := decide_eq_false c58
            have c58b1 : decide (0 < x8_2.length) = false := decide_eq_false (by omega)
            clear c58
            have H' := aS_ H
            clear H
            obtain ⟨Ao100, co100, eo100⟩ := Kd.R_slice HO_8.out
            subst eo100
            have hcz101 := blk2 (w := wr) BK139.out
            go_wp2
            go_loopg [96] k2 (fun kq v96 w' => ∃ (x96_3 : Int), v96 = .int .i64 x96_3 ∧ Aside0 (trees_Shape.l2 kq x4_1 x7_2 (l0_1.length : Int) x96_3 = some (r1, r2)) ∧ Aside0 (kq ≤ k2) ∧ Aside0 (Kd.R (Kd.int .i64) 3 w' w.heap.size (fun _ => True) v141 x4_1) ∧ Aside0 (Kd.R Kd.bool 4 w' w.heap.size (fun _ => True) v152 x7_2) ∧ Aside0 (w'.heap[gb139]? = some (.cells #[.int .i64 a0_0, (.slice A0_1 l0_1.length c0_1)] 53 (0, 0))) ∧ Aside0 (Below w.heap.size w w'))
            case atStart => exact ⟨(0), kr, H', ⟨Nat.le_refl _⟩, ⟨by (with_reducible repeat (first | apply Kd.R_alloc | apply Kd.R_drewN | apply Kd.R_drew)); exact Kd.R_mono HO_4.out (fun _ hk => trivial)⟩, ⟨kR HO_7⟩, ⟨kb BK139⟩, ⟨kB1 HB GE139⟩⟩
            case round =>
             clear H'
             try clear c1; try clear p1; try clear q1; try clear hx1; try clear c2; try clear c2b0; try clear c2b1; try clear c2b2; try clear p2; try clear q2; try clear hx2; try clear hf2; try clear c4; try clear c5; try clear c5b0; try clear c5b1; try clear c6; try clear c6b0; try clear c6b1; try clear p6; try clear q6; try clear c7; try clear p7; try clear q7; try clear hx7; try clear hf7; try clear c8; try clear c9; try clear q9; try clear c12; try clear c12b0; try clear c13; try clear c13b0; try clear c14; try clear c14b0; try clear p14; try clear q14; try clear hx14; try clear p15; try clear q15; try clear hx15; try clear c16; try clear p16; try clear q16; try clear hx16; try clear c18; try clear c19; try clear c19b0; try clear c20; try clear c20b0; try clear p21; try clear q21; try clear hx21; try clear hf21; try clear c22; try clear c22b0; try clear c23; try clear c23b0; try clear p24; try clear q24; try clear hx24; try clear hf24; try clear c26; try clear c40; try clear c47; try clear c51; try clear c51b0; try clear c51b1; try clear c52; try clear c52b0; try clear c52b1; try clear c58; try clear c58b0; try clear c58b1; try clear c60; try clear c60b0; try clear c61; try clear c61b0; try clear c62; try clear c62b0; try clear c62b1; try clear c63; try clear c63b0; try clear c64; try clear c64b0; try clear p64; try clear q65; try clear c66; try clear q68; try clear c69; try clear p70; try clear q70; try clear hx70; try clear hf70; try clear c71; try clear c71b0; try clear c73; try clear c74; try clear c75; try clear q76; try clear c82; try clear q91; try clear c97; try clear hcz101; try clear hcz11; try clear hcz27; try clear hcz28; try clear hcz30; try clear hcz32; try clear hcz36; try clear hcz41; try clear hcz42; try clear hcz44; try clear hcz48; try clear hcz49; try clear hcz4; try clear hcz53; try clear hcz80; try clear hcz83; try clear hcz85; try clear hcz8; try clear hcz95; try clear hcz98; try clear hx143_0; try clear hx143_1; try clear hx143_2; try clear hx143_3; try clear hx143_4; try clear hx143_5; try clear hx143_6; try clear hx143_7; try clear hx147_0; try clear hx149_0; try clear hx157_0; try clear hx161_0; try clear hx163_0; try clear hx163_1; try clear hx163_2; try clear hx163_3; try clear hx163_4; try clear hx163_5; try clear hx163_6; try clear hx163_7; try clear hx21_0; try clear hx24_0; try clear hx70_0; try clear p143; try clear p147; try clear p149; try clear p157; try clear p161; try clear p163; try clear q143; try clear q147; try clear q149; try clear q157; try clear q161; try clear q163
             obtain ⟨x96_3, rfl, HA, HK3, HO_4, HO_7, BK139, HB⟩ := hrel
             cases gk with
             | zero => exact absurd HA.out (by simp [trees_Shape.l2])
             | succ k3 =>
              have H := HA.out
              clear HA
              simp only [trees_Shape.l2] at H
              by_cases c102 : x96_3 < (l0_1.length : Int)
              ·rw [if_pos c102] at H
               have c102b0 := decide_eq_true c102
               clear c102
               obtain ⟨ji103, hji103⟩ : ∃ j_ : Int, (mn x96_3 1) = j_ := ⟨_, rfl⟩
               replace H : (if 0 ≤ x96_3 then (if x96_3 < (x4_1.length : Int) then (if (rd x4_1 x96_3) = (ji103) then (if x96_3 < (x7_2.length : Int) then (if rdOf false x7_2 x96_3 = true then (trees_Shape.l2 k3 x4_1 x7_2 (l0_1.length : Int) (wrap64 (x96_3 + 1))) else (some (70, x96_3))) else (none)) else (some (70, x96_3))) else (none)) else (none)) = some (r1, r2) := by first | (rw [hji103] at H; exact H) | (simp only [hji103] at H ⊢; exact H)
               have hji103_ : (if 1 < x96_3 then 1 else x96_3) = ji103 := hji103
               by_cases c104 : 0 ≤ x96_3
               ·rw [if_pos c104] at H
                have c104b0 := decide_eq_true c104
                clear c104
                by_cases c105 : x96_3 < (x4_1.length : Int)
                ·rw [if_pos c105] at H
                 have c105b0 := decide_eq_true c105
                 clear c105
                 by_cases c106 : (rd x4_1 x96_3) = (ji103)
                 ·rw [if_pos c106] at H
                  have c106b0 := beq_iff_eq.mpr c106
                  have c106b1 := bne_eq_false_iff_eq.mpr c106
                  clear c106
                  by_cases c107 : x96_3 < (x7_2.length : Int)
                  ·rw [if_pos c107] at H
                   have c107b0 := decide_eq_true c107
                   clear c107
                   obtain ⟨bq108, hbq108⟩ : ∃ b_ : Bool, b_ = (rdOf false x7_2 x96_3) := ⟨_, rfl⟩
                   replace H : (if bq108 = true then (trees_Shape.l2 k3 x4_1 x7_2 (l0_1.length : Int) (wrap64 (x96_3 + 1))) else (some (70, x96_3))) = some (r1, r2) := by rw [← hbq108] at H; exact H
                   have Nbq108 := aS_ hbq108
                   clear hbq108
                   by_cases c109 : bq108 = true
                   ·subst c109
                    rw [if_pos rfl] at H
                    have H' := aS_ H
                    clear H
                    obtain ⟨Ao110, co110, eo110⟩ := Kd.R_slice HO_4.out
                    subst eo110
                    have p172 : 0 ≤ (x96_3 : Int) := of_decide_eq_true ka
                    have q172 : x96_3 < (x4_1.length : Int) := of_decide_eq_true ka
                    obtain ⟨ad172, e172, hx172_0⟩ := Kd.at_int (Kd.R_reads' HO_4.out).2.2 x96_3 p172 q172
                    cases e172
                    replace p172 := eq_true p172
                    replace q172 := eq_true q172
                    obtain ⟨Ao111, co111, eo111⟩ := Kd.R_slice HO_7.out
                    subst eo111
                    have p173 : 0 ≤ (x96_3 : Int) := of_decide_eq_true ka
                    have q173 : x96_3 < (x7_2.length : Int) := of_decide_eq_true ka
                    obtain ⟨ad173, e173, hx173_0⟩ := Kd.at_bool (Kd.R_reads' HO_7.out).2.2 x96_3 p173 q173
                    (try rw [← Nbq108.out] at hx173_0)
                    cases e173
                    replace p173 := eq_true p173
                    replace q173 := eq_true q173
                    go_wp2
                    go_roundg k3
                    case measure => have := HK1.out; have := HK2.out; have := HK3.out; omega
                    case rel => exact ⟨(wrap64 (x96_3 + 1)), kr, H', ⟨by have := HK1.out; have := HK2.out; have := HK3.out; omega⟩, ⟨kR HO_4⟩, ⟨kR HO_7⟩, ⟨kb BK139⟩, ⟨kB1 HB GE139⟩⟩
                   ·replace c109 := Bool.eq_false_iff.mpr c109
                    subst c109
                    rw [if_neg (show ¬ (false = true) by decide)] at H
                    simp only [Option.some.injEq, Prod.mk.injEq] at H
                    obtain ⟨rfl, rfl⟩ := H
                    obtain ⟨Ao112, co112, eo112⟩ := Kd.R_slice HO_4.out
                    subst eo112
                    have p172 : 0 ≤ (x96_3 : Int) := of_decide_eq_true ka
                    have q172 : x96_3 < (x4_1.length : Int) := of_decide_eq_true ka
                    obtain ⟨ad172, e172, hx172_0⟩ := Kd.at_int (Kd.R_reads' HO_4.out).2.2 x96_3 p172 q172
                    cases e172
                    replace p172 := eq_true p172
                    replace q172 := eq_true q172
                    obtain ⟨Ao113, co113, eo113⟩ := Kd.R_slice HO_7.out
                    subst eo113
                    have p173 : 0 ≤ (x96_3 : Int) := of_decide_eq_true ka
                    have q173 : x96_3 < (x7_2.length : Int) := of_decide_eq_true ka
                    obtain ⟨ad173, e173, hx173_0⟩ := Kd.at_bool (Kd.R_reads' HO_7.out).2.2 x96_3 p173 q173
                    (try rw [← Nbq108.out] at hx173_0)
                    cases e173
                    replace p173 := eq_true p173
                    replace q173 := eq_true q173
                    go_wp2
                    go_ret2
                    exact ⟨by first | rfl | (simp [errW_none, errW_some] <;> rfl) | (simp only [← hji103]; first | rfl | (simp [errW_none, errW_some] <;> rfl)) | (simp [*, errW_none, errW_some] <;> rfl), kB1 HB GE139⟩
                  ·rw [if_neg c107] at H
                   exact absurd H (by simp)
                 ·rw [if_neg c106] at H
                  have c106b0 := beq_eq_false_iff_ne.mpr c106
                  have c106b1 := bne_iff_ne.mpr c106
                  simp only [Option.some.injEq, Prod.mk.injEq] at H
                  obtain ⟨rfl, rfl⟩ := H
                  obtain ⟨Ao114, co114, eo114⟩ := Kd.R_slice HO_4.out
                  subst eo114
                  have p172 : 0 ≤ (x96_3 : Int) := of_decide_eq_true ka
                  have q172 : x96_3 < (x4_1.length : Int) := of_decide_eq_true ka
                  obtain ⟨ad172, e172, hx172_0⟩ := Kd.at_int (Kd.R_reads' HO_4.out).2.2 x96_3 p172 q172
                  cases e172
                  replace p172 := eq_true p172
                  replace q172 := eq_true q172
                  go_wp2
                  go_ret2
                  exact ⟨by first | rfl | (simp [errW_none, errW_some] <;> rfl) | (simp only [← hji103]; first | rfl | (simp [errW_none, errW_some] <;> rfl)) | (simp [*, errW_none, errW_some] <;> rfl), kB1 HB GE139⟩
                ·rw [if_neg c105] at H
                 exact absurd H (by simp)
               ·rw [if_neg c104] at H
                exact absurd H (by simp)
              ·rw [if_neg c102] at H
               have c102b0 := decide_eq_false c102
               clear c102
               simp only [Option.some.injEq, Prod.mk.injEq] at H
               obtain ⟨rfl, rfl⟩ := H
               go_wp2
               go_ret2
               exact ⟨by first | rfl | (simp [errW_none, errW_some] <;> rfl) | (simp [*, errW_none, errW_some] <;> rfl), kB1 HB GE139⟩
        ·rw [if_neg c52] at H
         exact absurd H (by simp)
       ·rw [if_neg c51] at H
        exact absurd H (by simp)
   ·rw [if_neg c6] at H
    exact absurd H (by simp)
  ·rw [if_neg c5] at H
   exact absurd H (by simp)
end Go.Proofs.Ytfmjgjfbnilpoaa.FAll
