-- written by fprint.sh, a program of ours over the kit's print: not by hand
import Derived.Test.YtpeiafamkajedaaDoorFAllx0
import Derived.Test.YtpeiafamkajedaaDoorFAllx1
import Derived.Test.YtpeiafamkajedaaDoorFAllx2
namespace Go.Proofs.YtpeiafamkajedaaDoor.FAll
open Go.RowKit Go.Proofs.YtpeiafamkajedaaDoorW.PrintWords Go.Proofs.YtpeiafamkajedaaDoorW.PrintLast Go.Proofs.YtpeiafamkajedaaDoorW.PrintMore
attribute [local go_sem] feq_walk fne_walk flt_walk fle_walk fgt_walk fge_walk fint_walk fstore_walk run_f64bits max2_int min2_int max_two min_two max_three min_three max_four min_four   -- for this text's walks alone
set_option linter.unusedVariables false
set_option linter.unusedSimpArgs false
/-! ### trees_Shape: function 22 -/
mutual
def trees_Shape.l0 : Nat → List Int → List (S65) → Int → Int → Int → List (S65) → Option (Int × Int)
 | 0, _, _, _, _, _, _ => none
 | k + 1, x4, x22, x23, x24, x106000, x106001 => if x24 < x23 then (if 0 ≤ x24 then (if x24 < (x22.length : Int) then ((trees_right.f k ((rd_T65 x22 x24).f0) ((rd_T65 x22 x24).f1) ((rd_T65 x22 x24).f2) ((rd_T65 x22 x24).f3) ((rd_T65 x22 x24).f4) ((rd_T65 x22 x24).f5) ((rd_T65 x22 x24).f6) ((rd_T65 x22 x24).f7) (x106001.length : Int)).bind fun t111 => (if t111 = true then ((trees_inner.f ((rd_T65 x22 x24).f0) ((rd_T65 x22 x24).f1) ((rd_T65 x22 x24).f2) ((rd_T65 x22 x24).f3) ((rd_T65 x22 x24).f4) ((rd_T65 x22 x24).f5) ((rd_T65 x22 x24).f6) ((rd_T65 x22 x24).f7)).bind fun t112 => (if t112 = true then (if 0 ≤ ((rd_T65 x22 x24).f6) then (if ((rd_T65 x22 x24).f6) < (x4.length : Int) then ((some (x4.set (((rd_T65 x22 x24).f6) : Int).toNat (wrap64 ((rd x4 ((rd_T65 x22 x24).f6)) + 1)) : List Int)).bind fun y114 => (if 0 ≤ ((rd_T65 x22 x24).f7) then (if ((rd_T65 x22 x24).f7) < (x4.length : Int) then (trees_Shape.l0 k (y114.set (((rd_T65 x22 x24).f7) : Int).toNat (wrap64 ((rd y114 ((rd_T65 x22 x24).f7)) + 1))) x22 x23 (wrap64 (x24 + 1)) x106000 x106001) else (none)) else (none))) else (none)) else (none)) else (trees_Shape.l0 k x4 x22 x23 (wrap64 (x24 + 1)) x106000 x106001))) else (some (71, x24)))) else (none)) else (none)) else (if 0 ≤ (x106001.length : Int) then (if ((x106001.length : Int) : Int).toNat ≤ 281474976710656 then (trees_Shape.l1 k x4 (List.replicate ((x106001.length : Int) : Int).toNat false) (([0] : List Int)) x106000 x106001) else (none)) else (none))
def trees_Shape.l1 : Nat → List Int → List Bool → List Int → Int → List (S65) → Option (Int × Int)
 | 0, _, _, _, _, _ => none
 | k + 1, x4, x7, x8, x106000, x106001 => if (x8.length : Int) > 0 then (if 0 ≤ (wrap64 ((x8.length : Int) - 1)) then (if (wrap64 ((x8.length : Int) - 1)) < (x8.length : Int) then (if (wrap64 ((x8.length : Int) - 1)) ≤ (x8.length : Int) then ((some (x8.take ((wrap64 ((x8.length : Int) - 1)) : Int).toNat : List Int)).bind fun y124 => (if 0 ≤ (rd x8 (wrap64 ((x8.length : Int) - 1))) then (if (rd x8 (wrap64 ((x8.length : Int) - 1))) < (x7.length : Int) then (if rdOf false x7 (rd x8 (wrap64 ((x8.length : Int) - 1))) = true then (trees_Shape.l1 k x4 x7 y124 x106000 x106001) else ((some (x7.set ((rd x8 (wrap64 ((x8.length : Int) - 1))) : Int).toNat true : List Bool)).bind fun y128 => (if (rd x8 (wrap64 ((x8.length : Int) - 1))) < (x106001.length : Int) then ((trees_inner.f ((rd_T65 x106001 (rd x8 (wrap64 ((x8.length : Int) - 1)))).f0) ((rd_T65 x106001 (rd x8 (wrap64 ((x8.length : Int) - 1)))).f1) ((rd_T65 x106001 (rd x8 (wrap64 ((x8.length : Int) - 1)))).f2) ((rd_T65 x106001 (rd x8 (wrap64 ((x8.length : Int) - 1)))).f3) ((rd_T65 x106001 (rd x8 (wrap64 ((x8.length : Int) - 1)))).f4) ((rd_T65 x106001 (rd x8 (wrap64 ((x8.length : Int) - 1)))).f5) ((rd_T65 x106001 (rd x8 (wrap64 ((x8.length : Int) - 1)))).f6) ((rd_T65 x106001 (rd x8 (wrap64 ((x8.length : Int) - 1)))).f7)).bind fun t131 => (if t131 = true then ((some (([(rd_T65 x106001 (rd x8 (wrap64 ((x8.length : Int) - 1)))).f6, (rd_T65 x106001 (rd x8 (wrap64 ((x8.length : Int) - 1)))).f7] : List Int) : List Int)).bind fun y132 => (if y124.length + y132.length < 17592186044416 then (trees_Shape.l1 k x4 y128 (y124 ++ y132) x106000 x106001) else (none))) else (trees_Shape.l1 k x4 y128 y124 x106000 x106001))) else (none)))) else (none)) else (none))) else (none)) else (none)) else (none)) else (trees_Shape.l2 k x4 x7 (x106001.length : Int) 0)
def trees_Shape.l2 : Nat → List Int → List Bool → Int → Int → Option (Int × Int)
 | 0, _, _, _, _ => none
 | k + 1, x4, x7, x95, x96 => if x96 < x95 then (if 0 ≤ x96 then (if x96 < (x4.length : Int) then (if (rd x4 x96) = (mn x96 1) then (if x96 < (x7.length : Int) then (if rdOf false x7 x96 = true then (trees_Shape.l2 k x4 x7 x95 (wrap64 (x96 + 1))) else (some (70, x96))) else (none)) else (some (70, x96))) else (none)) else (none)) else (some (0, 0))
end
def trees_Shape.f (k : Nat) (a0_0 : Int) (l0_1 : List (S65)) : Option (Int × Int) := if (l0_1.length : Int) = 0 then (some (70, 0)) else (if 0 ≤ (l0_1.length : Int) then (if ((l0_1.length : Int) : Int).toNat ≤ 35184372088832 then (trees_Shape.l0 k (List.replicate ((l0_1.length : Int) : Int).toNat 0) l0_1 (l0_1.length : Int) 0 a0_0 l0_1) else (none)) else (none))
theorem trees_Shape.mono_l : ∀ k, (∀ y0 y1 y2 y3 y4 y5, LeO (trees_Shape.l0 k y0 y1 y2 y3 y4 y5) (trees_Shape.l0 (k + 1) y0 y1 y2 y3 y4 y5)) ∧ (∀ y0 y1 y2 y3 y4, LeO (trees_Shape.l1 k y0 y1 y2 y3 y4) (trees_Shape.l1 (k + 1) y0 y1 y2 y3 y4)) ∧ (∀ y0 y1 y2 y3, LeO (trees_Shape.l2 k y0 y1 y2 y3) (trees_Shape.l2 (k + 1) y0 y1 y2 y3))
 | 0 => ⟨fun _ _ _ _ _ _ r h => by simp [trees_Shape.l0] at h, fun _ _ _ _ _ r h => by simp [trees_Shape.l1] at h, fun _ _ _ _ r h => by simp [trees_Shape.l2] at h⟩
 | k + 1 => by
  obtain ⟨ih0, ih1, ih2⟩ := trees_Shape.mono_l k
  refine ⟨?_, ?_, ?_⟩
  ·intro y0 y1 y2 y3 y4 y5
   unfold trees_Shape.l0
   repeat' first
   | (with_reducible exact ih0 _ _ _ _ _ _)
   | (with_reducible exact ih1 _ _ _ _ _)
   | (with_reducible exact ih2 _ _ _ _)
   | (with_reducible exact trees_right.mono _ _ _ _ _ _ _ _ _ _)
   | (with_reducible exact LeO.refl _)
   | (with_reducible exact LeO.none _)
   | (with_reducible refine LeO.ite ?_ ?_)
   | (with_reducible refine LeO.bind ?_ (fun _ => ?_))
   | exact ih0 _ _ _ _ _ _
   | exact ih1 _ _ _ _ _
   | exact ih2 _ _ _ _
   | exact trees_right.mono _ _ _ _ _ _ _ _ _ _
   | exact LeO.none _
   | refine LeO.ite ?_ ?_
   | refine LeO.bind ?_ (fun _ => ?_)
  ·intro y0 y1 y2 y3 y4
   unfold trees_Shape.l1
   repeat' first
   | (with_reducible exact ih0 _ _ _ _ _ _)
   | (with_reducible exact ih1 _ _ _ _ _)
   | (with_reducible exact ih2 _ _ _ _)
   | (with_reducible exact trees_right.mono _ _ _ _ _ _ _ _ _ _)
   | (with_reducible exact LeO.refl _)
   | (with_reducible exact LeO.none _)
   | (with_reducible refine LeO.ite ?_ ?_)
   | (with_reducible refine LeO.bind ?_ (fun _ => ?_))
   | exact ih0 _ _ _ _ _ _
   | exact ih1 _ _ _ _ _
   | exact ih2 _ _ _ _
   | exact trees_right.mono _ _ _ _ _ _ _ _ _ _
   | exact LeO.none _
   | refine LeO.ite ?_ ?_
   | refine LeO.bind ?_ (fun _ => ?_)
  ·intro y0 y1 y2 y3
   unfold trees_Shape.l2
   repeat' first
   | (with_reducible exact ih0 _ _ _ _ _ _)
   | (with_reducible exact ih1 _ _ _ _ _)
   | (with_reducible exact ih2 _ _ _ _)
   | (with_reducible exact trees_right.mono _ _ _ _ _ _ _ _ _ _)
   | (with_reducible exact LeO.refl _)
   | (with_reducible exact LeO.none _)
   | (with_reducible refine LeO.ite ?_ ?_)
   | (with_reducible refine LeO.bind ?_ (fun _ => ?_))
   | exact ih0 _ _ _ _ _ _
   | exact ih1 _ _ _ _ _
   | exact ih2 _ _ _ _
   | exact trees_right.mono _ _ _ _ _ _ _ _ _ _
   | exact LeO.none _
   | refine LeO.ite ?_ ?_
   | refine LeO.bind ?_ (fun _ => ?_)
theorem trees_Shape.mono : ∀ a0 a1 k, LeO (trees_Shape.f k a0 a1) (trees_Shape.f (k + 1) a0 a1) := by
 intro a0 a1 k
 obtain ⟨ih0, ih1, ih2⟩ := trees_Shape.mono_l k
 unfold trees_Shape.f
 repeat' first
   | (with_reducible exact ih0 _ _ _ _ _ _)
   | (with_reducible exact ih1 _ _ _ _ _)
   | (with_reducible exact ih2 _ _ _ _)
   | (with_reducible exact trees_right.mono _ _ _ _ _ _ _ _ _ _)
   | (with_reducible exact LeO.refl _)
   | (with_reducible exact LeO.none _)
   | (with_reducible refine LeO.ite ?_ ?_)
   | (with_reducible refine LeO.bind ?_ (fun _ => ?_))
   | exact ih0 _ _ _ _ _ _
   | exact ih1 _ _ _ _ _
   | exact ih2 _ _ _ _
   | exact trees_right.mono _ _ _ _ _ _ _ _ _ _
   | exact LeO.none _
   | refine LeO.ite ?_ ?_
   | refine LeO.bind ?_ (fun _ => ?_)
set_option maxHeartbeats 8000000 in
set_option maxRecDepth 100000 in
theorem trees_Shape.calls (k : Nat) (a0_0 : Int) (A0_1 : Option Addr) (c0_1 : Nat) (l0_1 : List (S65)) (r1 : Int) (r2 : Int) (w : World) (hr0_1 : Kd.C k65 w A0_1 l0_1.length l0_1) (hc0_1 : l0_1.length ≤ c0_1) (h : trees_Shape.f k a0_0 l0_1 = some (r1, r2)) :
  Calls Tryd.prog 22 #[.agg #[.int .i64 a0_0, .slice A0_1 l0_1.length c0_1]] w fun e w' => e = .returned (.tuple #[.int .i64 r1, .int .i64 r2]) ∧ Below w.heap.size w w' := by
 have hu37 := Tryd.underlying37
 have hu65 := Tryd.underlying65
 have HR0_1 := Aside0.mk hr0_1
 have HC0_1 := Aside0.mk hc0_1
 clear hr0_1 hc0_1
 have HB := Aside0.mk (Below.refl w.heap.size w)
 have H : (if (l0_1.length : Int) = 0 then (some (70, 0)) else (if 0 ≤ (l0_1.length : Int) then (if ((l0_1.length : Int) : Int).toNat ≤ 35184372088832 then (trees_Shape.l0 k (List.replicate ((l0_1.length : Int) : Int).toNat 0) l0_1 (l0_1.length : Int) 0 a0_0 l0_1) else (none)) else (none))) = some (r1, r2) := h
 clear h
 by_cases c2 : (l0_1.length : Int) = 0
 ·rw [if_pos c2] at H
  have c2b0 : ((l0_1.length : Int) == 0) = true := beq_iff_eq.mpr c2
  have c2b1 : ((l0_1.length : Int) != 0) = false := bne_eq_false_iff_eq.mpr c2
  clear c2
  simp only [Option.some.injEq, Prod.mk.injEq] at H
  obtain ⟨rfl, rfl⟩ := H
  go_enter Tryd.func22, Tryd.ntmps22
  go_wp2_with (first | ((with_reducible refine gate_dst (N := 1) rfl ?_); refine box_event ?hg (N := 1) ?hd (cs := #[.int .i64 a0_0, .slice A0_1 l0_1.length c0_1]) (t := 37) ?hr ?_; (case hd => rfl); (case hg => rfl); (case hr => first | (go_simp; done) | (go_simp; rfl)); intro gb105 hg w3 hbox hb; have n0_ := Aside0.mk (below_step (kB0 HB) hb); have n1_ := Aside0.mk (hbox); have n2_ := Aside0.mk ((kg hg (kB0 HB) : w.heap.size ≤ gb105)); have n3_ := Aside0.mk ((kg hg (kB0 HB) : w.heap.size ≤ gb105)); clear HB; have HB := n0_; have BK105 := n1_; have GW105 := n2_; have GE105 := n3_; clear n0_ n1_ n2_ n3_; clear hb hbox hg; have hcz4 := blk2 (w := w3) BK105.out))
  go_ret2
  exact ⟨by first | rfl | (simp [errW_none, errW_some] <;> rfl) | (simp [*, errW_none, errW_some] <;> rfl), kB1 HB GE105⟩
 ·rw [if_neg c2] at H
  have c2b0 : ((l0_1.length : Int) == 0) = false := beq_eq_false_iff_ne.mpr c2
  have c2b1 : ((l0_1.length : Int) != 0) = true := bne_iff_ne.mpr c2
  have c2b2 : ¬ (l0_1 = []) := fun h_ => c2 (by rw [h_]; rfl)
  by_cases c5 : 0 ≤ (l0_1.length : Int)
  ·rw [if_pos c5] at H
   have c5b0 := eq_true c5
   have c5b1 : decide (0 ≤ (l0_1.length : Int)) = true := decide_eq_true c5
   clear c5
   by_cases c6 : ((l0_1.length : Int) : Int).toNat ≤ 35184372088832
   ·rw [if_pos c6] at H
    have c6b0 := eq_true c6
    have c6b1 : decide (((l0_1.length : Int) : Int).toNat ≤ 35184372088832) = true := decide_eq_true c6
    clear c6
    obtain ⟨y106, hy106⟩ : ∃ y_ : List Int, y_ = (List.replicate ((l0_1.length : Int) : Int).toNat 0) := ⟨_, rfl⟩
    replace H : (trees_Shape.l0 k y106 l0_1 (l0_1.length : Int) 0 a0_0 l0_1) = some (r1, r2) := by first | (rw [hy106]; with_reducible exact H) | (have H2_ := (Option.bind_some _ _).symm.trans H; rw [hy106]; with_reducible exact H2_) | (have H2_ := (Option.bind_some _ _).symm.trans H; with_reducible exact H2_) | with_reducible exact H | (rw [hy106]; exact H) | exact H
    have Ny106 := Aside0.mk hy106
    clear hy106
    have H' := Aside0.mk H
    clear H
    go_enter Tryd.func22, Tryd.ntmps22
    go_wp2_with (first | ((with_reducible refine gate_dst (N := 1) rfl ?_); refine box_event ?hg (N := 1) ?hd (cs := #[.int .i64 a0_0, .slice A0_1 l0_1.length c0_1]) (t := 37) ?hr ?_; (case hd => rfl); (case hg => rfl); (case hr => first | (go_simp; done) | (go_simp; rfl)); intro gb105 hg w7 hbox hb; have n0_ := Aside0.mk (below_step (kB0 HB) hb); have n1_ := Aside0.mk (hbox); have n2_ := Aside0.mk ((kg hg (kB0 HB) : w.heap.size ≤ gb105)); have n3_ := Aside0.mk ((kg hg (kB0 HB) : w.heap.size ≤ gb105)); clear HB; have HB := n0_; have BK105 := n1_; have GW105 := n2_; have GE105 := n3_; clear n0_ n1_ n2_ n3_; clear hb hbox hg; have hcz8 := blk2 (w := w7) BK105.out) | ((with_reducible refine gate_dst (N := 20) rfl ?_); refine Kd.R_make (Kd.int .i64) _ 3 rfl (N := 20) rfl 56 _ _ rfl (l0_1.length : Int) rfl rfl Tryd.underlying56 (.int .i64 0) 8 info3 rfl (by decide) (by omega) 0 (ok := fun _ => True) (okp := fun _ => True) rfl (fun _ hk => hk) trivial (of_decide_eq_true ka) (Nat.le_trans (Nat.mul_le_mul_right _ (of_decide_eq_true ka : (l0_1.length : Int).toNat ≤ 35184372088832)) (by omega)) (Below.refl _ _) (Nat.le_refl _) ?_; intro v107 w9 ho10 hb hg_ hnew_; clear hg_ hnew_; (first | rw [← Ny106.out] at ho10 | (simp only [Int.reduceToNat] at ho10; rw [← Ny106.out] at ho10)); have n0_ := Aside0.mk (Kd.R_lower ho10 (below_size (kB1 HB GE105))); have n1_ := Aside0.mk (blk_below (g := gb105) (o := .cells #[.int .i64 a0_0, .slice A0_1 l0_1.length c0_1] 37 (0, 0)) (kb BK105) hb); have n2_ := Aside0.mk (below_step (kB1 HB GE105) hb); clear BK105; clear HB; have HO108 := n0_; have BK105 := n1_; have HB := n2_; clear n0_ n1_ n2_; clear hb ho10; have hcz11 := blk2 (w := w9) BK105.out))
    go_loopg [24] k (fun kq v24 w' => ∃ (x4_1 : List Int) (x24_1 : Int), v24 = .int .i64 x24_1 ∧ Aside0 (trees_Shape.l0 kq x4_1 l0_1 (l0_1.length : Int) x24_1 a0_0 l0_1 = some (r1, r2)) ∧ Aside0 (kq ≤ k) ∧ Aside0 (Kd.R (Kd.int .i64) 3 w' w.heap.size (fun _ => True) v107 x4_1) ∧ Aside0 (w'.heap[gb105]? = some (.cells #[.int .i64 a0_0, (.slice A0_1 l0_1.length c0_1)] 37 (0, 0))) ∧ Aside0 (Below w.heap.size w w'))
    case atStart => exact ⟨(y106), (0), kr, H', ⟨Nat.le_refl _⟩, ⟨kR HO108⟩, ⟨kb BK105⟩, ⟨kB1 HB GE105⟩⟩
    case round =>
     clear H'
     try clear c2
     try clear c2b0
     try clear c2b1
     try clear c2b2
     try clear p2
     try clear c5
     try clear c5b0
     try clear c5b1
     try clear c6
     try clear c6b0
     try clear c6b1
     try clear hcz11
     try clear hcz4
     try clear hcz8
     obtain ⟨x4_1, x24_1, rfl, HA, HK1, HO_4, BK105, HB⟩ := hrel
     cases gk with
     | zero => exact absurd HA.out (by simp [trees_Shape.l0])
     | succ k1 =>
      have H := HA.out
      clear HA
      simp only [trees_Shape.l0] at H
      by_cases c12 : x24_1 < (l0_1.length : Int)
      ·rw [if_pos c12] at H
       have c12b0 : decide (x24_1 < (l0_1.length : Int)) = true := decide_eq_true c12
       clear c12
       by_cases c13 : 0 ≤ x24_1
       ·rw [if_pos c13] at H
        have c13b0 : decide (0 ≤ x24_1) = true := decide_eq_true c13
        clear c13
        by_cases c14 : x24_1 < (l0_1.length : Int)
        ·rw [if_pos c14] at H
         have c14b0 : decide (x24_1 < (l0_1.length : Int)) = true := decide_eq_true c14
         clear c14
         replace H := Option.bind_eq_some_iff.mp H
         obtain ⟨t111, A150, H⟩ := H
         replace H : (if t111 = true then ((trees_inner.f ((rd_T65 l0_1 x24_1).f0) ((rd_T65 l0_1 x24_1).f1) ((rd_T65 l0_1 x24_1).f2) ((rd_T65 l0_1 x24_1).f3) ((rd_T65 l0_1 x24_1).f4) ((rd_T65 l0_1 x24_1).f5) ((rd_T65 l0_1 x24_1).f6) ((rd_T65 l0_1 x24_1).f7)).bind fun t112 => (if t112 = true then (if 0 ≤ ((rd_T65 l0_1 x24_1).f6) then (if ((rd_T65 l0_1 x24_1).f6) < (x4_1.length : Int) then ((some (x4_1.set (((rd_T65 l0_1 x24_1).f6) : Int).toNat (wrap64 ((rd x4_1 ((rd_T65 l0_1 x24_1).f6)) + 1)) : List Int)).bind fun y114 => (if 0 ≤ ((rd_T65 l0_1 x24_1).f7) then (if ((rd_T65 l0_1 x24_1).f7) < (x4_1.length : Int) then (trees_Shape.l0 k1 (y114.set (((rd_T65 l0_1 x24_1).f7) : Int).toNat (wrap64 ((rd y114 ((rd_T65 l0_1 x24_1).f7)) + 1))) l0_1 (l0_1.length : Int) (wrap64 (x24_1 + 1)) a0_0 l0_1) else (none)) else (none))) else (none)) else (none)) else (trees_Shape.l0 k1 x4_1 l0_1 (l0_1.length : Int) (wrap64 (x24_1 + 1)) a0_0 l0_1))) else (some (71, x24_1))) = some (r1, r2) := H
         have A15 := Aside0.mk A150
         clear A150
         by_cases c16 : t111 = true
         ·subst c16
          have H1 : ((trees_inner.f ((rd_T65 l0_1 x24_1).f0) ((rd_T65 l0_1 x24_1).f1) ((rd_T65 l0_1 x24_1).f2) ((rd_T65 l0_1 x24_1).f3) ((rd_T65 l0_1 x24_1).f4) ((rd_T65 l0_1 x24_1).f5) ((rd_T65 l0_1 x24_1).f6) ((rd_T65 l0_1 x24_1).f7)).bind fun t112 => (if t112 = true then (if 0 ≤ ((rd_T65 l0_1 x24_1).f6) then (if ((rd_T65 l0_1 x24_1).f6) < (x4_1.length : Int) then ((some (x4_1.set (((rd_T65 l0_1 x24_1).f6) : Int).toNat (wrap64 ((rd x4_1 ((rd_T65 l0_1 x24_1).f6)) + 1)) : List Int)).bind fun y114 => (if 0 ≤ ((rd_T65 l0_1 x24_1).f7) then (if ((rd_T65 l0_1 x24_1).f7) < (x4_1.length : Int) then (trees_Shape.l0 k1 (y114.set (((rd_T65 l0_1 x24_1).f7) : Int).toNat (wrap64 ((rd y114 ((rd_T65 l0_1 x24_1).f7)) + 1))) l0_1 (l0_1.length : Int) (wrap64 (x24_1 + 1)) a0_0 l0_1) else (none)) else (none))) else (none)) else (none)) else (trees_Shape.l0 k1 x4_1 l0_1 (l0_1.length : Int) (wrap64 (x24_1 + 1)) a0_0 l0_1))) = some (r1, r2) := by rw [if_pos rfl] at H; exact H
          clear H
          have H := H1
          clear H1
          replace H := Option.bind_eq_some_iff.mp H
          obtain ⟨t112, A170, H⟩ := H
          replace H : (if t112 = true then (if 0 ≤ ((rd_T65 l0_1 x24_1).f6) then (if ((rd_T65 l0_1 x24_1).f6) < (x4_1.length : Int) then ((some (x4_1.set (((rd_T65 l0_1 x24_1).f6) : Int).toNat (wrap64 ((rd x4_1 ((rd_T65 l0_1 x24_1).f6)) + 1)) : List Int)).bind fun y114 => (if 0 ≤ ((rd_T65 l0_1 x24_1).f7) then (if ((rd_T65 l0_1 x24_1).f7) < (x4_1.length : Int) then (trees_Shape.l0 k1 (y114.set (((rd_T65 l0_1 x24_1).f7) : Int).toNat (wrap64 ((rd y114 ((rd_T65 l0_1 x24_1).f7)) + 1))) l0_1 (l0_1.length : Int) (wrap64 (x24_1 + 1)) a0_0 l0_1) else (none)) else (none))) else (none)) else (none)) else (trees_Shape.l0 k1 x4_1 l0_1 (l0_1.length : Int) (wrap64 (x24_1 + 1)) a0_0 l0_1)) = some (r1, r2) := H
          have A17 := Aside0.mk A170
          clear A170
          by_cases c18 : t112 = true
          ·subst c18
           have H1 : (if 0 ≤ ((rd_T65 l0_1 x24_1).f6) then (if ((rd_T65 l0_1 x24_1).f6) < (x4_1.length : Int) then ((some (x4_1.set (((rd_T65 l0_1 x24_1).f6) : Int).toNat (wrap64 ((rd x4_1 ((rd_T65 l0_1 x24_1).f6)) + 1)) : List Int)).bind fun y114 => (if 0 ≤ ((rd_T65 l0_1 x24_1).f7) then (if ((rd_T65 l0_1 x24_1).f7) < (x4_1.length : Int) then (trees_Shape.l0 k1 (y114.set (((rd_T65 l0_1 x24_1).f7) : Int).toNat (wrap64 ((rd y114 ((rd_T65 l0_1 x24_1).f7)) + 1))) l0_1 (l0_1.length : Int) (wrap64 (x24_1 + 1)) a0_0 l0_1) else (none)) else (none))) else (none)) else (none)) = some (r1, r2) := by rw [if_pos rfl] at H; exact H
           clear H
           have H := H1
           clear H1
           by_cases c19 : 0 ≤ ((rd_T65 l0_1 x24_1).f6)
           ·rw [if_pos c19] at H
            have c19b0 : decide (0 ≤ ((rd_T65 l0_1 x24_1).f6)) = true := decide_eq_true c19
            clear c19
            by_cases c20 : ((rd_T65 l0_1 x24_1).f6) < (x4_1.length : Int)
            ·rw [if_pos c20] at H
             have c20b0 : decide (((rd_T65 l0_1 x24_1).f6) < (x4_1.length : Int)) = true := decide_eq_true c20
             clear c20
             obtain ⟨y114, hy114⟩ : ∃ y_ : List Int, y_ = (x4_1.set (((rd_T65 l0_1 x24_1).f6) : Int).toNat (wrap64 ((rd x4_1 ((rd_T65 l0_1 x24_1).f6)) + 1))) := ⟨_, rfl⟩
             replace H : (if 0 ≤ ((rd_T65 l0_1 x24_1).f7) then (if ((rd_T65 l0_1 x24_1).f7) < (x4_1.length : Int) then (trees_Shape.l0 k1 (y114.set (((rd_T65 l0_1 x24_1).f7) : Int).toNat (wrap64 ((rd y114 ((rd_T65 l0_1 x24_1).f7)) + 1))) l0_1 (l0_1.length : Int) (wrap64 (x24_1 + 1)) a0_0 l0_1) else (none)) else (none)) = some (r1, r2) := by first | (rw [hy114]; with_reducible exact H) | (have H2_ := (Option.bind_some _ _).symm.trans H; rw [hy114]; with_reducible exact H2_) | (have H2_ := (Option.bind_some _ _).symm.trans H; with_reducible exact H2_) | with_reducible exact H | (rw [hy114]; exact H) | exact H
             have Ny114 := Aside0.mk hy114
             clear hy114
             by_cases c22 : 0 ≤ ((rd_T65 l0_1 x24_1).f7)
             ·rw [if_pos c22] at H
              have c22b0 : decide (0 ≤ ((rd_T65 l0_1 x24_1).f7)) = true := decide_eq_true c22
              clear c22
              by_cases c23 : ((rd_T65 l0_1 x24_1).f7) < (x4_1.length : Int)
              ·rw [if_pos c23] at H
               have c23b0 : decide (((rd_T65 l0_1 x24_1).f7) < (x4_1.length : Int)) = true := decide_eq_true c23
               clear c23
               obtain ⟨y116, hy116⟩ : ∃ y_ : List Int, y_ = (y114.set (((rd_T65 l0_1 x24_1).f7) : Int).toNat (wrap64 ((rd y114 ((rd_T65 l0_1 x24_1).f7)) + 1))) := ⟨_, rfl⟩
               replace H : (trees_Shape.l0 k1 y116 l0_1 (l0_1.length : Int) (wrap64 (x24_1 + 1)) a0_0 l0_1) = some (r1, r2) := by first | (rw [hy116]; with_reducible exact H) | (have H2_ := (Option.bind_some _ _).symm.trans H; rw [hy116]; with_reducible exact H2_) | (have H2_ := (Option.bind_some _ _).symm.trans H; with_reducible exact H2_) | with_reducible exact H | (rw [hy116]; exact H) | exact H
               have Ny116 := Aside0.mk hy116
               clear hy116
               have H' := Aside0.mk H
               clear H
               have p109 : 0 ≤ (x24_1 : Int) := of_decide_eq_true ka
               have q109 : x24_1 < (l0_1.length : Int) := of_decide_eq_true ka
               obtain ⟨ad109, A109_4, c109_4, e109, hx109_0, hx109_1, hx109_2, hx109_3, hx109_4, hx109_5, hx109_6, hx109_7, hl109_4, hi109_4⟩ := at_T65 HR0_1.out x24_1 p109 q109
               cases e109
               replace hx109_0 := (HB.out.cell (World.block_lt_of_cell? w _ hx109_0)).trans hx109_0
               replace hx109_1 := (HB.out.cell (World.block_lt_of_cell? w _ hx109_1)).trans hx109_1
               replace hx109_2 := (HB.out.cell (World.block_lt_of_cell? w _ hx109_2)).trans hx109_2
               replace hx109_3 := (HB.out.cell (World.block_lt_of_cell? w _ hx109_3)).trans hx109_3
               replace hx109_4 := (HB.out.cell (World.block_lt_of_cell? w _ hx109_4)).trans hx109_4
               replace hx109_5 := (HB.out.cell (World.block_lt_of_cell? w _ hx109_5)).trans hx109_5
               replace hx109_6 := (HB.out.cell (World.block_lt_of_cell? w _ hx109_6)).trans hx109_6
               replace hx109_7 := (HB.out.cell (World.block_lt_of_cell? w _ hx109_7)).trans hx109_7
               have HR109_4 := Aside0.mk hi109_4
               have HC109_4 := Aside0.mk hl109_4
               clear hi109_4 hl109_4
               replace p109 := eq_true p109
               replace q109 := eq_true q109
               go_wp2_with (first | ((with_reducible refine gate_dst (N := 6) rfl ?_); refine box_event ?hg (N := 6) ?hd (cs := #[.int .u8 0, .int .i64 0, .int .i64 0, .float .f64 0, .slice none 0 0, .int .u8 0, .int .i64 0, .int .i64 0]) (t := 65) ?hr ?_; (case hd => rfl); (case hg => rfl); (case hr => first | (go_simp; done) | (go_simp; rfl)); intro gb110 hg w25 hbox hb; have n0_ := Aside0.mk (Kd.R_below (kR HO_4) hb); have n1_ := Aside0.mk (blk_below (g := gb105) (o := .cells #[.int .i64 a0_0, .slice (some ad109) l0_1.length c0_1] 37 (0, 0)) (kb BK105) hb); have n2_ := Aside0.mk (below_step (kB1 HB GE105) hb); have n3_ := Aside0.mk (hbox); have n4_ := Aside0.mk ((kg hg (kB1 HB GE105) : w.heap.size ≤ gb110)); have n5_ := Aside0.mk ((kg hg (kB1 HB GE105) : w.heap.size ≤ gb110)); have n6_ := Aside0.mk ((by rw [hg]; exact Nat.ne_of_lt (blk_lt (g := gb105) (o := .cells #[.int .i64 a0_0, .slice (some ad109) l0_1.length c0_1] 37 (0, 0)) (kb BK105)) : gb105 ≠ gb110)); have n7_ := Aside0.mk ((by rw [hg]; exact Nat.ne_of_gt (blk_lt (g := gb105) (o := .cells #[.int .i64 a0_0, .slice (some ad109) l0_1.length c0_1] 37 (0, 0)) (kb BK105)) : gb110 ≠ gb105)); clear HO_4; clear BK105; clear HB; have HO_4 := n0_; have BK105 := n1_; have HB := n2_; have BK110 := n3_; have GW110 := n4_; have GE110 := n5_; have NB105_110 := n6_; have NB110_105 := n7_; clear n0_ n1_ n2_ n3_ n4_ n5_ n6_ n7_; clear hb hbox hg; have hnb26 := NB110_105.out; have hnc26 := NB105_110.out; have hcz27 := blk8 (w := w25) BK110.out; have hcz28 := blk2 (w := w25) BK105.out) | ((with_reducible refine gate_callee (f := 44) rfl ?_); refine goesL_ (some 33) rfl rfl Tryd.func44 (by kernel_rfl) rfl #[.agg #[.int .u8 ((rd_T65 l0_1 x24_1).f0), .int .i64 ((rd_T65 l0_1 x24_1).f1), .int .i64 ((rd_T65 l0_1 x24_1).f2), .float .f64 ((rd_T65 l0_1 x24_1).f3), .slice A109_4 ((rd_T65 l0_1 x24_1).f4).length c109_4, .int .u8 ((rd_T65 l0_1 x24_1).f5), .int .i64 ((rd_T65 l0_1 x24_1).f6), .int .i64 ((rd_T65 l0_1 x24_1).f7)], .int .i64 (l0_1.length : Int)] rfl (by (try simp only [List.map_toArray, List.map_cons, List.map_nil]); first | done | rfl | (simp only [List.length_drop, List.length_take]; rfl)) ?_; (with_reducible refine (trees_right.calls k1 ((rd_T65 l0_1 x24_1).f0) ((rd_T65 l0_1 x24_1).f1) ((rd_T65 l0_1 x24_1).f2) ((rd_T65 l0_1 x24_1).f3) _ _ ((rd_T65 l0_1 x24_1).f4) ((rd_T65 l0_1 x24_1).f5) ((rd_T65 l0_1 x24_1).f6) ((rd_T65 l0_1 x24_1).f7) (l0_1.length : Int) true _ ?side1 ?side2 A15.out).mono ?_); (case side1 => exact Kd.C_below HR109_4.out (kB2 HB GE105 GE110)); (case side2 => exact HC109_4.out); rintro e w29 ⟨rfl, hb⟩; refine ⟨_, rfl, ?_⟩; have n0_ := Aside0.mk (Kd.R_below (by (with_reducible repeat (first | apply Kd.R_alloc | apply Kd.R_drewN | apply Kd.R_drew)); exact (Kd.R_mono (Kd.R_far (p := ⟨gb110, 7, none⟩) (Kd.R_far (p := ⟨gb110, 6, none⟩) (Kd.R_far (p := ⟨gb110, 5, none⟩) (Kd.R_far (p := ⟨gb110, 4, none⟩) (Kd.R_far (p := ⟨gb110, 3, none⟩) (Kd.R_far (p := ⟨gb110, 2, none⟩) (Kd.R_far (p := ⟨gb110, 1, none⟩) (Kd.R_far (p := ⟨gb110, 0, none⟩) (Kd.R_types HO_4.out BK110.out (by decide)) (fun _ hk => hk.2) (.int .u8 ((rd_T65 l0_1 x24_1).f0))) (fun _ hk => hk.2) (.int .i64 ((rd_T65 l0_1 x24_1).f1))) (fun _ hk => hk.2) (.int .i64 ((rd_T65 l0_1 x24_1).f2))) (fun _ hk => hk.2) (.float .f64 ((rd_T65 l0_1 x24_1).f3))) (fun _ hk => hk.2) (.slice A109_4 ((rd_T65 l0_1 x24_1).f4).length c109_4)) (fun _ hk => hk.2) (.int .u8 ((rd_T65 l0_1 x24_1).f5))) (fun _ hk => hk.2) (.int .i64 ((rd_T65 l0_1 x24_1).f6))) (fun _ hk => hk.2) (.int .i64 ((rd_T65 l0_1 x24_1).f7))) (fun _ h_ => h_.1))) hb); have n1_ := Aside0.mk (blk_below (g := gb105) (o := .cells #[.int .i64 a0_0, .slice (some ad109) l0_1.length c0_1] 37 (0, 0)) (by (with_reducible repeat (first | refine blk_drewN ?_ _ | refine blk_drew ?_ | refine blk_alloc ?_ _)); refine blk_far ?_ NB105_110.out _; (with_reducible repeat (first | refine blk_drewN ?_ _ | refine blk_drew ?_ | refine blk_alloc ?_ _)); refine blk_far ?_ NB105_110.out _; (with_reducible repeat (first | refine blk_drewN ?_ _ | refine blk_drew ?_ | refine blk_alloc ?_ _)); refine blk_far ?_ NB105_110.out _; (with_reducible repeat (first | refine blk_drewN ?_ _ | refine blk_drew ?_ | refine blk_alloc ?_ _)); refine blk_far ?_ NB105_110.out _; (with_reducible repeat (first | refine blk_drewN ?_ _ | refine blk_drew ?_ | refine blk_alloc ?_ _)); refine blk_far ?_ NB105_110.out _; (with_reducible repeat (first | refine blk_drewN ?_ _ | refine blk_drew ?_ | refine blk_alloc ?_ _)); refine blk_far ?_ NB105_110.out _; (with_reducible repeat (first | refine blk_drewN ?_ _ | refine blk_drew ?_ | refine blk_alloc ?_ _)); refine blk_far ?_ NB105_110.out _; (with_reducible repeat (first | refine blk_drewN ?_ _ | refine blk_drew ?_ | refine blk_alloc ?_ _)); refine blk_far ?_ NB105_110.out _; (with_reducible repeat (first | refine blk_drewN ?_ _ | refine blk_drew ?_ | refine blk_alloc ?_ _)); exact BK105.out) hb); have n2_ := Aside0.mk (blk_below (g := gb110) (o := .cells #[.int .u8 ((rd_T65 l0_1 x24_1).f0), .int .i64 ((rd_T65 l0_1 x24_1).f1), .int .i64 ((rd_T65 l0_1 x24_1).f2), .float .f64 ((rd_T65 l0_1 x24_1).f3), .slice A109_4 ((rd_T65 l0_1 x24_1).f4).length c109_4, .int .u8 ((rd_T65 l0_1 x24_1).f5), .int .i64 ((rd_T65 l0_1 x24_1).f6), .int .i64 ((rd_T65 l0_1 x24_1).f7)] 65 (0, 0)) (by (with_reducible repeat (first | refine blk_drewN ?_ _ | refine blk_drew ?_ | refine blk_alloc ?_ _)); refine blk_put (cs := #[.int .u8 ((rd_T65 l0_1 x24_1).f0), .int .i64 ((rd_T65 l0_1 x24_1).f1), .int .i64 ((rd_T65 l0_1 x24_1).f2), .float .f64 ((rd_T65 l0_1 x24_1).f3), .slice A109_4 ((rd_T65 l0_1 x24_1).f4).length c109_4, .int .u8 ((rd_T65 l0_1 x24_1).f5), .int .i64 ((rd_T65 l0_1 x24_1).f6), .int .i64 0]) ?_ 7 _ rfl; (with_reducible repeat (first | refine blk_drewN ?_ _ | refine blk_drew ?_ | refine blk_alloc ?_ _)); refine blk_put (cs := #[.int .u8 ((rd_T65 l0_1 x24_1).f0), .int .i64 ((rd_T65 l0_1 x24_1).f1), .int .i64 ((rd_T65 l0_1 x24_1).f2), .float .f64 ((rd_T65 l0_1 x24_1).f3), .slice A109_4 ((rd_T65 l0_1 x24_1).f4).length c109_4, .int .u8 ((rd_T65 l0_1 x24_1).f5), .int .i64 0, .int .i64 0]) ?_ 6 _ rfl; (with_reducible repeat (first | refine blk_drewN ?_ _ | refine blk_drew ?_ | refine blk_alloc ?_ _)); refine blk_put (cs := #[.int .u8 ((rd_T65 l0_1 x24_1).f0), .int .i64 ((rd_T65 l0_1 x24_1).f1), .int .i64 ((rd_T65 l0_1 x24_1).f2), .float .f64 ((rd_T65 l0_1 x24_1).f3), .slice A109_4 ((rd_T65 l0_1 x24_1).f4).length c109_4, .int .u8 0, .int .i64 0, .int .i64 0]) ?_ 5 _ rfl; (with_reducible repeat (first | refine blk_drewN ?_ _ | refine blk_drew ?_ | refine blk_alloc ?_ _)); refine blk_put (cs := #[.int .u8 ((rd_T65 l0_1 x24_1).f0), .int .i64 ((rd_T65 l0_1 x24_1).f1), .int .i64 ((rd_T65 l0_1 x24_1).f2), .float .f64 ((rd_T65 l0_1 x24_1).f3), .slice none 0 0, .int .u8 0, .int .i64 0, .int .i64 0]) ?_ 4 _ rfl; (with_reducible repeat (first | refine blk_drewN ?_ _ | refine blk_drew ?_ | refine blk_alloc ?_ _)); refine blk_put (cs := #[.int .u8 ((rd_T65 l0_1 x24_1).f0), .int .i64 ((rd_T65 l0_1 x24_1).f1), .int .i64 ((rd_T65 l0_1 x24_1).f2), .float .f64 0, .slice none 0 0, .int .u8 0, .int .i64 0, .int .i64 0]) ?_ 3 _ rfl; (with_reducible repeat (first | refine blk_drewN ?_ _ | refine blk_drew ?_ | refine blk_alloc ?_ _)); refine blk_put (cs := #[.int .u8 ((rd_T65 l0_1 x24_1).f0), .int .i64 ((rd_T65 l0_1 x24_1).f1), .int .i64 0, .float .f64 0, .slice none 0 0, .int .u8 0, .int .i64 0, .int .i64 0]) ?_ 2 _ rfl; (with_reducible repeat (first | refine blk_drewN ?_ _ | refine blk_drew ?_ | refine blk_alloc ?_ _)); refine blk_put (cs := #[.int .u8 ((rd_T65 l0_1 x24_1).f0), .int .i64 0, .int .i64 0, .float .f64 0, .slice none 0 0, .int .u8 0, .int .i64 0, .int .i64 0]) ?_ 1 _ rfl; (with_reducible repeat (first | refine blk_drewN ?_ _ | refine blk_drew ?_ | refine blk_alloc ?_ _)); refine blk_put (cs := #[.int .u8 0, .int .i64 0, .int .i64 0, .float .f64 0, .slice none 0 0, .int .u8 0, .int .i64 0, .int .i64 0]) ?_ 0 _ rfl; (with_reducible repeat (first | refine blk_drewN ?_ _ | refine blk_drew ?_ | refine blk_alloc ?_ _)); exact BK110.out) hb); have n3_ := Aside0.mk (below_step (kB2 HB GE105 GE110) hb); clear HO_4; clear BK105; clear BK110; clear HB; have HO_4 := n0_; have BK105 := n1_; have BK110 := n2_; have HB := n3_; clear n0_ n1_ n2_ n3_; (try clear hb); (try clear hb2); (try clear hk); (try clear hi); have hcz30 := blk8 (w := w29) BK110.out) | ((with_reducible refine gate_callee (f := 41) rfl ?_); refine goesL_ (some 37) rfl rfl Tryd.func41 (by kernel_rfl) rfl #[.agg #[.int .u8 ((rd_T65 l0_1 x24_1).f0), .int .i64 ((rd_T65 l0_1 x24_1).f1), .int .i64 ((rd_T65 l0_1 x24_1).f2), .float .f64 ((rd_T65 l0_1 x24_1).f3), .slice A109_4 ((rd_T65 l0_1 x24_1).f4).length c109_4, .int .u8 ((rd_T65 l0_1 x24_1).f5), .int .i64 ((rd_T65 l0_1 x24_1).f6), .int .i64 ((rd_T65 l0_1 x24_1).f7)]] rfl (by (try simp only [List.map_toArray, List.map_cons, List.map_nil]); first | done | rfl | (simp only [List.length_drop, List.length_take]; rfl)) ?_; (with_reducible refine (trees_inner.calls ((rd_T65 l0_1 x24_1).f0) ((rd_T65 l0_1 x24_1).f1) ((rd_T65 l0_1 x24_1).f2) ((rd_T65 l0_1 x24_1).f3) _ _ ((rd_T65 l0_1 x24_1).f4) ((rd_T65 l0_1 x24_1).f5) ((rd_T65 l0_1 x24_1).f6) ((rd_T65 l0_1 x24_1).f7) true _ ?side1 ?side2 A17.out).mono ?_); (case side1 => repeat (first | exact (Kd.C_below HR109_4.out HB.out) | (with_reducible refine Kd.C_alloc ?_ _) | (with_reducible refine Kd.C_drewN ?_ _) | (with_reducible refine Kd.C_drew ?_))); (case side2 => exact HC109_4.out); rintro e w31 ⟨rfl, hb⟩; refine ⟨_, rfl, ?_⟩; have n0_ := Aside0.mk (Kd.R_below (kR HO_4) hb); have n1_ := Aside0.mk (blk_below (g := gb105) (o := .cells #[.int .i64 a0_0, .slice (some ad109) l0_1.length c0_1] 37 (0, 0)) (kb BK105) hb); have n2_ := Aside0.mk (blk_below (g := gb110) (o := .cells #[.int .u8 ((rd_T65 l0_1 x24_1).f0), .int .i64 ((rd_T65 l0_1 x24_1).f1), .int .i64 ((rd_T65 l0_1 x24_1).f2), .float .f64 ((rd_T65 l0_1 x24_1).f3), .slice A109_4 ((rd_T65 l0_1 x24_1).f4).length c109_4, .int .u8 ((rd_T65 l0_1 x24_1).f5), .int .i64 ((rd_T65 l0_1 x24_1).f6), .int .i64 ((rd_T65 l0_1 x24_1).f7)] 65 (0, 0)) (kb BK110) hb); have n3_ := Aside0.mk (below_step (kB2 HB GE105 GE110) hb); clear HO_4; clear BK105; clear BK110; clear HB; have HO_4 := n0_; have BK105 := n1_; have BK110 := n2_; have HB := n3_; clear n0_ n1_ n2_ n3_; (try clear hb); (try clear hb2); (try clear hk); (try clear hi); have hcz32 := blk8 (w := w31) BK110.out; obtain ⟨Ao33, co33, eo33⟩ := Kd.R_slice HO_4.out; subst eo33; have p113 : 0 ≤ (((rd_T65 l0_1 x24_1).f6) : Int) := of_decide_eq_true ka; have q113 : ((rd_T65 l0_1 x24_1).f6) < (x4_1.length : Int) := of_decide_eq_true ka; obtain ⟨ad113, e113, hx113_0⟩ := Kd.at_int (Kd.R_reads' HO_4.out).2.2 ((rd_T65 l0_1 x24_1).f6) p113 q113; cases e113; replace p113 := eq_true p113; replace q113 := eq_true q113; have p21 : 0 ≤ (((rd_T65 l0_1 x24_1).f6) : Int) := of_decide_eq_true ka; have q21 : (((rd_T65 l0_1 x24_1).f6) : Int) < ((x4_1.length : Int) : Int) := of_decide_eq_true ka; obtain ⟨go21, co21, eo21, gb21, gl21, cl21, HG21⟩ := Kd.R_form HO_4.out (by omega); (first | cases eo21 | (injection eo21 with ea_ en_ ec_; (first | subst ea_ | (injection ea_ with ea_; subst ea_)); subst ec_; clear en_)); have GB21 := Aside0.mk gb21; have GG21 := Aside0.mk HG21; clear gb21 gl21 HG21; (first | simp only [add_plain] at hx113_0 | skip); obtain ⟨hx21_0, hf21_0⟩ := Kd.R_celln 0 HO_4.out (((rd_T65 l0_1 x24_1).f6) : Int) p21 q21; replace p21 := eq_true p21; replace q21 := eq_true q21; obtain ⟨hy34_, hz34_⟩ := Kd.R_celln 0 HO_4.out (((rd_T65 l0_1 x24_1).f6) : Int) (of_decide_eq_true ka) (of_decide_eq_true ka); have HP34 := Kd.R_putg HO_4.out (((rd_T65 l0_1 x24_1).f6) : Int) (wrap64 ((rd x4_1 ((rd_T65 l0_1 x24_1).f6)) + 1))) | ((with_reducible refine gate_store (t := 3) (p := 44) rfl ?_); refine store_event (t := 3) (p := 44) (v := ?vo_w35) (w1 := (w31.setCell ⟨go21, (((rd_T65 l0_1 x24_1).f6) : Int).toNat, none⟩ (.int .i64 (wrap64 ((rd x4_1 ((rd_T65 l0_1 x24_1).f6)) + 1))))) ?hg ?ho ?hn ?hr ?_; (case ho => rfl); (case hg => rfl); (case hn => rfl); (case hr => first | (go_simp; done) | (go_simp; rfl)); intro w35 hw; have hg : w31.grownBy w35 (some go21) := (by rw [hw]; exact HP34.2); have hp_ : Kd.R (Kd.int .i64) 3 w35 w.heap.size (fun _ => True) (.slice (some ⟨go21, 0, none⟩) x4_1.length co33) y114 := (by rw [hw, Ny114.out]; exact HP34.1); clear HP34; have n0_ := Aside0.mk (hp_); have n1_ := Aside0.mk (blk_grown (g := gb105) (o := .cells #[.int .i64 a0_0, .slice (some ad109) l0_1.length c0_1] 37 (0, 0)) (kb BK105) hg (Kd.R_ne HO_4.out BK105.out (by decide))); have n2_ := Aside0.mk (blk_grown (g := gb110) (o := .cells #[.int .u8 ((rd_T65 l0_1 x24_1).f0), .int .i64 ((rd_T65 l0_1 x24_1).f1), .int .i64 ((rd_T65 l0_1 x24_1).f2), .float .f64 ((rd_T65 l0_1 x24_1).f3), .slice A109_4 ((rd_T65 l0_1 x24_1).f4).length c109_4, .int .u8 ((rd_T65 l0_1 x24_1).f5), .int .i64 ((rd_T65 l0_1 x24_1).f6), .int .i64 ((rd_T65 l0_1 x24_1).f7)] 65 (0, 0)) (kb BK110) hg (Kd.R_ne HO_4.out BK110.out (by decide))); have n3_ := Aside0.mk ((by rw [hw]; exact below_set (HB.out) GB21.out : Below w.heap.size w w35)); clear HO_4; clear BK105; clear BK110; clear HB; have HO_4 := n0_; have BK105 := n1_; have BK110 := n2_; have HB := n3_; clear n0_ n1_ n2_ n3_; clear hg hw hp_; have hcz36 := blk8 (w := w35) BK110.out; have p115 : 0 ≤ (((rd_T65 l0_1 x24_1).f7) : Int) := of_decide_eq_true ka; have q115 : ((rd_T65 l0_1 x24_1).f7) < (y114.length : Int) := (by have h_ : (((rd_T65 l0_1 x24_1).f7) : Int) < ((x4_1.length : Int) : Int) := of_decide_eq_true ka; first | (have e_ := (Kd.R_reads' HO_4.out).1; omega) | simpa only [Ny114.out, List.length_set] using h_); have ql115 : ((((rd_T65 l0_1 x24_1).f7) : Int) < ((x4_1.length : Int) : Int)) = True := eq_true (of_decide_eq_true ka); obtain ⟨ad115, e115, hx115_0⟩ := Kd.at_int (Kd.R_reads' HO_4.out).2.2 ((rd_T65 l0_1 x24_1).f7) p115 q115; obtain rfl : (⟨go21, 0, none⟩ : Addr) = ad115 := (by injection e115); (first | simp only [add_plain] at hx115_0 | simp only [add_at] at hx115_0 | simp only [Addr.add, Nat.zero_add] at hx115_0 | skip); replace p115 := eq_true p115; replace q115 := eq_true q115; have p24 : 0 ≤ (((rd_T65 l0_1 x24_1).f7) : Int) := of_decide_eq_true ka; have q24 : (((rd_T65 l0_1 x24_1).f7) : Int) < ((x4_1.length : Int) : Int) := of_decide_eq_true ka; obtain ⟨hx24_0, hf24_0⟩ := Kd.R_celln 0 HO_4.out (((rd_T65 l0_1 x24_1).f7) : Int) p24 q24; replace p24 := eq_true p24; replace q24 := eq_true q24; obtain ⟨hy37_, hz37_⟩ := Kd.R_celln 0 HO_4.out (((rd_T65 l0_1 x24_1).f7) : Int) (of_decide_eq_true ka) (of_decide_eq_true ka); have HP37 := Kd.R_putg HO_4.out (((rd_T65 l0_1 x24_1).f7) : Int) (wrap64 ((rd y114 ((rd_T65 l0_1 x24_1).f7)) + 1))) | ((with_reducible refine gate_store (t := 3) (p := 51) rfl ?_); refine store_event (t := 3) (p := 51) (v := ?vo_w38) (w1 := (w35.setCell ⟨go21, (((rd_T65 l0_1 x24_1).f7) : Int).toNat, none⟩ (.int .i64 (wrap64 ((rd y114 ((rd_T65 l0_1 x24_1).f7)) + 1))))) ?hg ?ho ?hn ?hr ?_; (case ho => rfl); (case hg => rfl); (case hn => rfl); (case hr => first | (go_simp; done) | (go_simp; rfl)); intro w38 hw; have hg : w35.grownBy w38 (some go21) := (by rw [hw]; exact HP37.2); have hp_ : Kd.R (Kd.int .i64) 3 w38 w.heap.size (fun _ => True) (.slice (some ⟨go21, 0, none⟩) x4_1.length co33) y116 := (by rw [hw, Ny116.out]; exact HP37.1); clear HP37; have n0_ := Aside0.mk (hp_); have n1_ := Aside0.mk (blk_grown (g := gb105) (o := .cells #[.int .i64 a0_0, .slice (some ad109) l0_1.length c0_1] 37 (0, 0)) (kb BK105) hg (Kd.R_ne HO_4.out BK105.out (by decide))); have n2_ := Aside0.mk (blk_grown (g := gb110) (o := .cells #[.int .u8 ((rd_T65 l0_1 x24_1).f0), .int .i64 ((rd_T65 l0_1 x24_1).f1), .int .i64 ((rd_T65 l0_1 x24_1).f2), .float .f64 ((rd_T65 l0_1 x24_1).f3), .slice A109_4 ((rd_T65 l0_1 x24_1).f4).length c109_4, .int .u8 ((rd_T65 l0_1 x24_1).f5), .int .i64 ((rd_T65 l0_1 x24_1).f6), .int .i64 ((rd_T65 l0_1 x24_1).f7)] 65 (0, 0)) (kb BK110) hg (Kd.R_ne HO_4.out BK110.out (by decide))); have n3_ := Aside0.mk ((by rw [hw]; exact below_set (HB.out) GB21.out : Below w.heap.size w w38)); clear HO_4; clear BK105; clear BK110; clear HB; have HO_4 := n0_; have BK105 := n1_; have BK110 := n2_; have HB := n3_; clear n0_ n1_ n2_ n3_; clear hg hw hp_))
               go_roundg k1
               case measure => have := HK1.out; omega
               case rel => exact ⟨(y116), (wrap64 (x24_1 + 1)), kr, H', ⟨by have := HK1.out; omega⟩, ⟨kR HO_4⟩, ⟨kb BK105⟩, ⟨kB2 HB GE105 GE110⟩⟩
              ·rw [if_neg c23] at H
               exact absurd H (by simp)
             ·rw [if_neg c22] at H
              exact absurd H (by simp)
            ·rw [if_neg c20] at H
             exact absurd H (by simp)
           ·rw [if_neg c19] at H
            exact absurd H (by simp)
          ·replace c18 := Bool.eq_false_iff.mpr c18
           subst c18
           have H1 : (trees_Shape.l0 k1 x4_1 l0_1 (l0_1.length : Int) (wrap64 (x24_1 + 1)) a0_0 l0_1) = some (r1, r2) := by rw [if_neg (show ¬ (false = true) by decide)] at H; exact H
           clear H
           have H := H1
           clear H1
           have H' := Aside0.mk H
           clear H
           have p109 : 0 ≤ (x24_1 : Int) := of_decide_eq_true ka
           have q109 : x24_1 < (l0_1.length : Int) := of_decide_eq_true ka
           obtain ⟨ad109, A109_4, c109_4, e109, hx109_0, hx109_1, hx109_2, hx109_3, hx109_4, hx109_5, hx109_6, hx109_7, hl109_4, hi109_4⟩ := at_T65 HR0_1.out x24_1 p109 q109
           cases e109
           replace hx109_0 := (HB.out.cell (World.block_lt_of_cell? w _ hx109_0)).trans hx109_0
           replace hx109_1 := (HB.out.cell (World.block_lt_of_cell? w _ hx109_1)).trans hx109_1
           replace hx109_2 := (HB.out.cell (World.block_lt_of_cell? w _ hx109_2)).trans hx109_2
           replace hx109_3 := (HB.out.cell (World.block_lt_of_cell? w _ hx109_3)).trans hx109_3
           replace hx109_4 := (HB.out.cell (World.block_lt_of_cell? w _ hx109_4)).trans hx109_4
           replace hx109_5 := (HB.out.cell (World.block_lt_of_cell? w _ hx109_5)).trans hx109_5
           replace hx109_6 := (HB.out.cell (World.block_lt_of_cell? w _ hx109_6)).trans hx109_6
           replace hx109_7 := (HB.out.cell (World.block_lt_of_cell? w _ hx109_7)).trans hx109_7
           have HR109_4 := Aside0.mk hi109_4
           have HC109_4 := Aside0.mk hl109_4
           clear hi109_4 hl109_4
           replace p109 := eq_true p109
           replace q109 := eq_true q109
           go_wp2_with (first | ((with_reducible refine gate_dst (N := 6) rfl ?_); refine box_event ?hg (N := 6) ?hd (cs := #[.int .u8 0, .int .i64 0, .int .i64 0, .float .f64 0, .slice none 0 0, .int .u8 0, .int .i64 0, .int .i64 0]) (t := 65) ?hr ?_; (case hd => rfl); (case hg => rfl); (case hr => first | (go_simp; done) | (go_simp; rfl)); intro gb110 hg w39 hbox hb; have n0_ := Aside0.mk (Kd.R_below (kR HO_4) hb); have n1_ := Aside0.mk (blk_below (g := gb105) (o := .cells #[.int .i64 a0_0, .slice (some ad109) l0_1.length c0_1] 37 (0, 0)) (kb BK105) hb); have n2_ := Aside0.mk (below_step (kB1 HB GE105) hb); have n3_ := Aside0.mk (hbox); have n4_ := Aside0.mk ((kg hg (kB1 HB GE105) : w.heap.size ≤ gb110)); have n5_ := Aside0.mk ((kg hg (kB1 HB GE105) : w.heap.size ≤ gb110)); have n6_ := Aside0.mk ((by rw [hg]; exact Nat.ne_of_lt (blk_lt (g := gb105) (o := .cells #[.int .i64 a0_0, .slice (some ad109) l0_1.length c0_1] 37 (0, 0)) (kb BK105)) : gb105 ≠ gb110)); have n7_ := Aside0.mk ((by rw [hg]; exact Nat.ne_of_gt (blk_lt (g := gb105) (o := .cells #[.int .i64 a0_0, .slice (some ad109) l0_1.length c0_1] 37 (0, 0)) (kb BK105)) : gb110 ≠ gb105)); clear HO_4; clear BK105; clear HB; have HO_4 := n0_; have BK105 := n1_; have HB := n2_; have BK110 := n3_; have GW110 := n4_; have GE110 := n5_; have NB105_110 := n6_; have NB110_105 := n7_; clear n0_ n1_ n2_ n3_ n4_ n5_ n6_ n7_; clear hb hbox hg; have hnb40 := NB110_105.out; have hnc40 := NB105_110.out; have hcz41 := blk8 (w := w39) BK110.out; have hcz42 := blk2 (w := w39) BK105.out) | ((with_reducible refine gate_callee (f := 44) rfl ?_); refine goesL_ (some 33) rfl rfl Tryd.func44 (by kernel_rfl) rfl #[.agg #[.int .u8 ((rd_T65 l0_1 x24_1).f0), .int .i64 ((rd_T65 l0_1 x24_1).f1), .int .i64 ((rd_T65 l0_1 x24_1).f2), .float .f64 ((rd_T65 l0_1 x24_1).f3), .slice A109_4 ((rd_T65 l0_1 x24_1).f4).length c109_4, .int .u8 ((rd_T65 l0_1 x24_1).f5), .int .i64 ((rd_T65 l0_1 x24_1).f6), .int .i64 ((rd_T65 l0_1 x24_1).f7)], .int .i64 (l0_1.length : Int)] rfl (by (try simp only [List.map_toArray, List.map_cons, List.map_nil]); first | done | rfl | (simp only [List.length_drop, List.length_take]; rfl)) ?_; (with_reducible refine (trees_right.calls k1 ((rd_T65 l0_1 x24_1).f0) ((rd_T65 l0_1 x24_1).f1) ((rd_T65 l0_1 x24_1).f2) ((rd_T65 l0_1 x24_1).f3) _ _ ((rd_T65 l0_1 x24_1).f4) ((rd_T65 l0_1 x24_1).f5) ((rd_T65 l0_1 x24_1).f6) ((rd_T65 l0_1 x24_1).f7) (l0_1.length : Int) true _ ?side1 ?side2 A15.out).mono ?_); (case side1 => exact Kd.C_below HR109_4.out (kB2 HB GE105 GE110)); (case side2 => exact HC109_4.out); rintro e w43 ⟨rfl, hb⟩; refine ⟨_, rfl, ?_⟩; have n0_ := Aside0.mk (Kd.R_below (by (with_reducible repeat (first | apply Kd.R_alloc | apply Kd.R_drewN | apply Kd.R_drew)); exact (Kd.R_mono (Kd.R_far (p := ⟨gb110, 7, none⟩) (Kd.R_far (p := ⟨gb110, 6, none⟩) (Kd.R_far (p := ⟨gb110, 5, none⟩) (Kd.R_far (p := ⟨gb110, 4, none⟩) (Kd.R_far (p := ⟨gb110, 3, none⟩) (Kd.R_far (p := ⟨gb110, 2, none⟩) (Kd.R_far (p := ⟨gb110, 1, none⟩) (Kd.R_far (p := ⟨gb110, 0, none⟩) (Kd.R_types HO_4.out BK110.out (by decide)) (fun _ hk => hk.2) (.int .u8 ((rd_T65 l0_1 x24_1).f0))) (fun _ hk => hk.2) (.int .i64 ((rd_T65 l0_1 x24_1).f1))) (fun _ hk => hk.2) (.int .i64 ((rd_T65 l0_1 x24_1).f2))) (fun _ hk => hk.2) (.float .f64 ((rd_T65 l0_1 x24_1).f3))) (fun _ hk => hk.2) (.slice A109_4 ((rd_T65 l0_1 x24_1).f4).length c109_4)) (fun _ hk => hk.2) (.int .u8 ((rd_T65 l0_1 x24_1).f5))) (fun _ hk => hk.2) (.int .i64 ((rd_T65 l0_1 x24_1).f6))) (fun _ hk => hk.2) (.int .i64 ((rd_T65 l0_1 x24_1).f7))) (fun _ h_ => h_.1))) hb); have n1_ := Aside0.mk (blk_below (g := gb105) (o := .cells #[.int .i64 a0_0, .slice (some ad109) l0_1.length c0_1] 37 (0, 0)) (by (with_reducible repeat (first | refine blk_drewN ?_ _ | refine blk_drew ?_ | refine blk_alloc ?_ _)); refine blk_far ?_ NB105_110.out _; (with_reducible repeat (first | refine blk_drewN ?_ _ | refine blk_drew ?_ | refine blk_alloc ?_ _)); refine blk_far ?_ NB105_110.out _; (with_reducible repeat (first | refine blk_drewN ?_ _ | refine blk_drew ?_ | refine blk_alloc ?_ _)); refine blk_far ?_ NB105_110.out _; (with_reducible repeat (first | refine blk_drewN ?_ _ | refine blk_drew ?_ | refine blk_alloc ?_ _)); refine blk_far ?_ NB105_110.out _; (with_reducible repeat (first | refine blk_drewN ?_ _ | refine blk_drew ?_ | refine blk_alloc ?_ _)); refine blk_far ?_ NB105_110.out _; (with_reducible repeat (first | refine blk_drewN ?_ _ | refine blk_drew ?_ | refine blk_alloc ?_ _)); refine blk_far ?_ NB105_110.out _; (with_reducible repeat (first | refine blk_drewN ?_ _ | refine blk_drew ?_ | refine blk_alloc ?_ _)); refine blk_far ?_ NB105_110.out _; (with_reducible repeat (first | refine blk_drewN ?_ _ | refine blk_drew ?_ | refine blk_alloc ?_ _)); refine blk_far ?_ NB105_110.out _; (with_reducible repeat (first | refine blk_drewN ?_ _ | refine blk_drew ?_ | refine blk_alloc ?_ _)); exact BK105.out) hb); have n2_ := Aside0.mk (blk_below (g := gb110) (o := .cells #[.int .u8 ((rd_T65 l0_1 x24_1).f0), .int .i64 ((rd_T65 l0_1 x24_1).f1), .int .i64 ((rd_T65 l0_1 x24_1).f2), .float .f64 ((rd_T65 l0_1 x24_1).f3), .slice A109_4 ((rd_T65 l0_1 x24_1).f4).length c109_4, .int .u8 ((rd_T65 l0_1 x24_1).f5), .int .i64 ((rd_T65 l0_1 x24_1).f6), .int .i64 ((rd_T65 l0_1 x24_1).f7)] 65 (0, 0)) (by (with_reducible repeat (first | refine blk_drewN ?_ _ | refine blk_drew ?_ | refine blk_alloc ?_ _)); refine blk_put (cs := #[.int .u8 ((rd_T65 l0_1 x24_1).f0), .int .i64 ((rd_T65 l0_1 x24_1).f1), .int .i64 ((rd_T65 l0_1 x24_1).f2), .float .f64 ((rd_T65 l0_1 x24_1).f3), .slice A109_4 ((rd_T65 l0_1 x24_1).f4).length c109_4, .int .u8 ((rd_T65 l0_1 x24_1).f5), .int .i64 ((rd_T65 l0_1 x24_1).f6), .int .i64 0]) ?_ 7 _ rfl; (with_reducible repeat (first | refine blk_drewN ?_ _ | refine blk_drew ?_ | refine blk_alloc ?_ _)); refine blk_put (cs := #[.int .u8 ((rd_T65 l0_1 x24_1).f0), .int .i64 ((rd_T65 l0_1 x24_1).f1), .int .i64 ((rd_T65 l0_1 x24_1).f2), .float .f64 ((rd_T65 l0_1 x24_1).f3), .slice A109_4 ((rd_T65 l0_1 x24_1).f4).length c109_4, .int .u8 ((rd_T65 l0_1 x24_1).f5), .int .i64 0, .int .i64 0]) ?_ 6 _ rfl; (with_reducible repeat (first | refine blk_drewN ?_ _ | refine blk_drew ?_ | refine blk_alloc ?_ _)); refine blk_put (cs := #[.int .u8 ((rd_T65 l0_1 x24_1).f0), .int .i64 ((rd_T65 l0_1 x24_1).f1), .int .i64 ((rd_T65 l0_1 x24_1).f2), .float .f64 ((rd_T65 l0_1 x24_1).f3), .slice A109_4 ((rd_T65 l0_1 x24_1).f4).length c109_4, .int .u8 0, .int .i64 0, .int .i64 0]) ?_ 5 _ rfl; (with_reducible repeat (first | refine blk_drewN ?_ _ | refine blk_drew ?_ | refine blk_alloc ?_ _)); refine blk_put (cs := #[.int .u8 ((rd_T65 l0_1 x24_1).f0), .int .i64 ((rd_T65 l0_1 x24_1).f1), .int .i64 ((rd_T65 l0_1 x24_1).f2), .float .f64 ((rd_T65 l0_1 x24_1).f3), .slice none 0 0, .int .u8 0, .int .i64 0, .int .i64 0]) ?_ 4 _ rfl; (with_reducible repeat (first | refine blk_drewN ?_ _ | refine blk_drew ?_ | refine blk_alloc ?_ _)); refine blk_put (cs := #[.int .u8 ((rd_T65 l0_1 x24_1).f0), .int .i64 ((rd_T65 l0_1 x24_1).f1), .int .i64 ((rd_T65 l0_1 x24_1).f2), .float .f64 0, .slice none 0 0, .int .u8 0, .int .i64 0, .int .i64 0]) ?_ 3 _ rfl; (with_reducible repeat (first | refine blk_drewN ?_ _ | refine blk_drew ?_ | refine blk_alloc ?_ _)); refine blk_put (cs := #[.int .u8 ((rd_T65 l0_1 x24_1).f0), .int .i64 ((rd_T65 l0_1 x24_1).f1), .int .i64 0, .float .f64 0, .slice none 0 0, .int .u8 0, .int .i64 0, .int .i64 0]) ?_ 2 _ rfl; (with_reducible repeat (first | refine blk_drewN ?_ _ | refine blk_drew ?_ | refine blk_alloc ?_ _)); refine blk_put (cs := #[.int .u8 ((rd_T65 l0_1 x24_1).f0), .int .i64 0, .int .i64 0, .float .f64 0, .slice none 0 0, .int .u8 0, .int .i64 0, .int .i64 0]) ?_ 1 _ rfl; (with_reducible repeat (first | refine blk_drewN ?_ _ | refine blk_drew ?_ | refine blk_alloc ?_ _)); refine blk_put (cs := #[.int .u8 0, .int .i64 0, .int .i64 0, .float .f64 0, .slice none 0 0, .int .u8 0, .int .i64 0, .int .i64 0]) ?_ 0 _ rfl; (with_reducible repeat (first | refine blk_drewN ?_ _ | refine blk_drew ?_ | refine blk_alloc ?_ _)); exact BK110.out) hb); have n3_ := Aside0.mk (below_step (kB2 HB GE105 GE110) hb); clear HO_4; clear BK105; clear BK110; clear HB; have HO_4 := n0_; have BK105 := n1_; have BK110 := n2_; have HB := n3_; clear n0_ n1_ n2_ n3_; (try clear hb); (try clear hb2); (try clear hk); (try clear hi); have hcz44 := blk8 (w := w43) BK110.out) | ((with_reducible refine gate_callee (f := 41) rfl ?_); refine goesL_ (some 37) rfl rfl Tryd.func41 (by kernel_rfl) rfl #[.agg #[.int .u8 ((rd_T65 l0_1 x24_1).f0), .int .i64 ((rd_T65 l0_1 x24_1).f1), .int .i64 ((rd_T65 l0_1 x24_1).f2), .float .f64 ((rd_T65 l0_1 x24_1).f3), .slice A109_4 ((rd_T65 l0_1 x24_1).f4).length c109_4, .int .u8 ((rd_T65 l0_1 x24_1).f5), .int .i64 ((rd_T65 l0_1 x24_1).f6), .int .i64 ((rd_T65 l0_1 x24_1).f7)]] rfl (by (try simp only [List.map_toArray, List.map_cons, List.map_nil]); first | done | rfl | (simp only [List.length_drop, List.length_take]; rfl)) ?_; (with_reducible refine (trees_inner.calls ((rd_T65 l0_1 x24_1).f0) ((rd_T65 l0_1 x24_1).f1) ((rd_T65 l0_1 x24_1).f2) ((rd_T65 l0_1 x24_1).f3) _ _ ((rd_T65 l0_1 x24_1).f4) ((rd_T65 l0_1 x24_1).f5) ((rd_T65 l0_1 x24_1).f6) ((rd_T65 l0_1 x24_1).f7) false _ ?side1 ?side2 A17.out).mono ?_); (case side1 => repeat (first | exact (Kd.C_below HR109_4.out HB.out) | (with_reducible refine Kd.C_alloc ?_ _) | (with_reducible refine Kd.C_drewN ?_ _) | (with_reducible refine Kd.C_drew ?_))); (case side2 => exact HC109_4.out); rintro e w45 ⟨rfl, hb⟩; refine ⟨_, rfl, ?_⟩; have n0_ := Aside0.mk (Kd.R_below (kR HO_4) hb); have n1_ := Aside0.mk (blk_below (g := gb105) (o := .cells #[.int .i64 a0_0, .slice (some ad109) l0_1.length c0_1] 37 (0, 0)) (kb BK105) hb); have n2_ := Aside0.mk (blk_below (g := gb110) (o := .cells #[.int .u8 ((rd_T65 l0_1 x24_1).f0), .int .i64 ((rd_T65 l0_1 x24_1).f1), .int .i64 ((rd_T65 l0_1 x24_1).f2), .float .f64 ((rd_T65 l0_1 x24_1).f3), .slice A109_4 ((rd_T65 l0_1 x24_1).f4).length c109_4, .int .u8 ((rd_T65 l0_1 x24_1).f5), .int .i64 ((rd_T65 l0_1 x24_1).f6), .int .i64 ((rd_T65 l0_1 x24_1).f7)] 65 (0, 0)) (kb BK110) hb); have n3_ := Aside0.mk (below_step (kB2 HB GE105 GE110) hb); clear HO_4; clear BK105; clear BK110; clear HB; have HO_4 := n0_; have BK105 := n1_; have BK110 := n2_; have HB := n3_; clear n0_ n1_ n2_ n3_; (try clear hb); (try clear hb2); (try clear hk); (try clear hi)))
           go_roundg k1
           case measure => have := HK1.out; omega
           case rel => exact ⟨(x4_1), (wrap64 (x24_1 + 1)), kr, H', ⟨by have := HK1.out; omega⟩, ⟨kR HO_4⟩, ⟨kb BK105⟩, ⟨kB2 HB GE105 GE110⟩⟩
         ·replace c16 := Bool.eq_false_iff.mpr c16
          subst c16
          have H1 : (some (71, x24_1)) = some (r1, r2) := by rw [if_neg (show ¬ (false = true) by decide)] at H; exact H
          clear H
          have H := H1
          clear H1
          simp only [Option.some.injEq, Prod.mk.injEq] at H
          obtain ⟨rfl, rfl⟩ := H
          have p109 : 0 ≤ (x24_1 : Int) := of_decide_eq_true ka
          have q109 : x24_1 < (l0_1.length : Int) := of_decide_eq_true ka
          obtain ⟨ad109, A109_4, c109_4, e109, hx109_0, hx109_1, hx109_2, hx109_3, hx109_4, hx109_5, hx109_6, hx109_7, hl109_4, hi109_4⟩ := at_T65 HR0_1.out x24_1 p109 q109
          cases e109
          replace hx109_0 := (HB.out.cell (World.block_lt_of_cell? w _ hx109_0)).trans hx109_0
          replace hx109_1 := (HB.out.cell (World.block_lt_of_cell? w _ hx109_1)).trans hx109_1
          replace hx109_2 := (HB.out.cell (World.block_lt_of_cell? w _ hx109_2)).trans hx109_2
          replace hx109_3 := (HB.out.cell (World.block_lt_of_cell? w _ hx109_3)).trans hx109_3
          replace hx109_4 := (HB.out.cell (World.block_lt_of_cell? w _ hx109_4)).trans hx109_4
          replace hx109_5 := (HB.out.cell (World.block_lt_of_cell? w _ hx109_5)).trans hx109_5
          replace hx109_6 := (HB.out.cell (World.block_lt_of_cell? w _ hx109_6)).trans hx109_6
          replace hx109_7 := (HB.out.cell (World.block_lt_of_cell? w _ hx109_7)).trans hx109_7
          have HR109_4 := Aside0.mk hi109_4
          have HC109_4 := Aside0.mk hl109_4
          clear hi109_4 hl109_4
          replace p109 := eq_true p109
          replace q109 := eq_true q109
          go_wp2_with (first | ((with_reducible refine gate_dst (N := 6) rfl ?_); refine box_event ?hg (N := 6) ?hd (cs := #[.int .u8 0, .int .i64 0, .int .i64 0, .float .f64 0, .slice none 0 0, .int .u8 0, .int .i64 0, .int .i64 0]) (t := 65) ?hr ?_; (case hd => rfl); (case hg => rfl); (case hr => first | (go_simp; done) | (go_simp; rfl)); intro gb110 hg w46 hbox hb; have n0_ := Aside0.mk (Kd.R_below (kR HO_4) hb); have n1_ := Aside0.mk (blk_below (g := gb105) (o := .cells #[.int .i64 a0_0, .slice (some ad109) l0_1.length c0_1] 37 (0, 0)) (kb BK105) hb); have n2_ := Aside0.mk (below_step (kB1 HB GE105) hb); have n3_ := Aside0.mk (hbox); have n4_ := Aside0.mk ((kg hg (kB1 HB GE105) : w.heap.size ≤ gb110)); have n5_ := Aside0.mk ((kg hg (kB1 HB GE105) : w.heap.size ≤ gb110)); have n6_ := Aside0.mk ((by rw [hg]; exact Nat.ne_of_lt (blk_lt (g := gb105) (o := .cells #[.int .i64 a0_0, .slice (some ad109) l0_1.length c0_1] 37 (0, 0)) (kb BK105)) : gb105 ≠ gb110)); have n7_ := Aside0.mk ((by rw [hg]; exact Nat.ne_of_gt (blk_lt (g := gb105) (o := .cells #[.int .i64 a0_0, .slice (some ad109) l0_1.length c0_1] 37 (0, 0)) (kb BK105)) : gb110 ≠ gb105)); clear HO_4; clear BK105; clear HB; have HO_4 := n0_; have BK105 := n1_; have HB := n2_; have BK110 := n3_; have GW110 := n4_; have GE110 := n5_; have NB105_110 := n6_; have NB110_105 := n7_; clear n0_ n1_ n2_ n3_ n4_ n5_ n6_ n7_; clear hb hbox hg; have hnb47 := NB110_105.out; have hnc47 := NB105_110.out; have hcz48 := blk8 (w := w46) BK110.out; have hcz49 := blk2 (w := w46) BK105.out) | ((with_reducible refine gate_callee (f := 44) rfl ?_); refine goesL_ (some 33) rfl rfl Tryd.func44 (by kernel_rfl) rfl #[.agg #[.int .u8 ((rd_T65 l0_1 x24_1).f0), .int .i64 ((rd_T65 l0_1 x24_1).f1), .int .i64 ((rd_T65 l0_1 x24_1).f2), .float .f64 ((rd_T65 l0_1 x24_1).f3), .slice A109_4 ((rd_T65 l0_1 x24_1).f4).length c109_4, .int .u8 ((rd_T65 l0_1 x24_1).f5), .int .i64 ((rd_T65 l0_1 x24_1).f6), .int .i64 ((rd_T65 l0_1 x24_1).f7)], .int .i64 (l0_1.length : Int)] rfl (by (try simp only [List.map_toArray, List.map_cons, List.map_nil]); first | done | rfl | (simp only [List.length_drop, List.length_take]; rfl)) ?_; (with_reducible refine (trees_right.calls k1 ((rd_T65 l0_1 x24_1).f0) ((rd_T65 l0_1 x24_1).f1) ((rd_T65 l0_1 x24_1).f2) ((rd_T65 l0_1 x24_1).f3) _ _ ((rd_T65 l0_1 x24_1).f4) ((rd_T65 l0_1 x24_1).f5) ((rd_T65 l0_1 x24_1).f6) ((rd_T65 l0_1 x24_1).f7) (l0_1.length : Int) false _ ?side1 ?side2 A15.out).mono ?_); (case side1 => exact Kd.C_below HR109_4.out (kB2 HB GE105 GE110)); (case side2 => exact HC109_4.out); rintro e w50 ⟨rfl, hb⟩; refine ⟨_, rfl, ?_⟩; have n0_ := Aside0.mk (Kd.R_below (by (with_reducible repeat (first | apply Kd.R_alloc | apply Kd.R_drewN | apply Kd.R_drew)); exact (Kd.R_mono (Kd.R_far (p := ⟨gb110, 7, none⟩) (Kd.R_far (p := ⟨gb110, 6, none⟩) (Kd.R_far (p := ⟨gb110, 5, none⟩) (Kd.R_far (p := ⟨gb110, 4, none⟩) (Kd.R_far (p := ⟨gb110, 3, none⟩) (Kd.R_far (p := ⟨gb110, 2, none⟩) (Kd.R_far (p := ⟨gb110, 1, none⟩) (Kd.R_far (p := ⟨gb110, 0, none⟩) (Kd.R_types HO_4.out BK110.out (by decide)) (fun _ hk => hk.2) (.int .u8 ((rd_T65 l0_1 x24_1).f0))) (fun _ hk => hk.2) (.int .i64 ((rd_T65 l0_1 x24_1).f1))) (fun _ hk => hk.2) (.int .i64 ((rd_T65 l0_1 x24_1).f2))) (fun _ hk => hk.2) (.float .f64 ((rd_T65 l0_1 x24_1).f3))) (fun _ hk => hk.2) (.slice A109_4 ((rd_T65 l0_1 x24_1).f4).length c109_4)) (fun _ hk => hk.2) (.int .u8 ((rd_T65 l0_1 x24_1).f5))) (fun _ hk => hk.2) (.int .i64 ((rd_T65 l0_1 x24_1).f6))) (fun _ hk => hk.2) (.int .i64 ((rd_T65 l0_1 x24_1).f7))) (fun _ h_ => h_.1))) hb); have n1_ := Aside0.mk (blk_below (g := gb105) (o := .cells #[.int .i64 a0_0, .slice (some ad109) l0_1.length c0_1] 37 (0, 0)) (by (with_reducible repeat (first | refine blk_drewN ?_ _ | refine blk_drew ?_ | refine blk_alloc ?_ _)); refine blk_far ?_ NB105_110.out _; (with_reducible repeat (first | refine blk_drewN ?_ _ | refine blk_drew ?_ | refine blk_alloc ?_ _)); refine blk_far ?_ NB105_110.out _; (with_reducible repeat (first | refine blk_drewN ?_ _ | refine blk_drew ?_ | refine blk_alloc ?_ _)); refine blk_far ?_ NB105_110.out _; (with_reducible repeat (first | refine blk_drewN ?_ _ | refine blk_drew ?_ | refine blk_alloc ?_ _)); refine blk_far ?_ NB105_110.out _; (with_reducible repeat (first | refine blk_drewN ?_ _ | refine blk_drew ?_ | refine blk_alloc ?_ _)); refine blk_far ?_ NB105_110.out _; (with_reducible repeat (first | refine blk_drewN ?_ _ | refine blk_drew ?_ | refine blk_alloc ?_ _)); refine blk_far ?_ NB105_110.out _; (with_reducible repeat (first | refine blk_drewN ?_ _ | refine blk_drew ?_ | refine blk_alloc ?_ _)); refine blk_far ?_ NB105_110.out _; (with_reducible repeat (first | refine blk_drewN ?_ _ | refine blk_drew ?_ | refine blk_alloc ?_ _)); refine blk_far ?_ NB105_110.out _; (with_reducible repeat (first | refine blk_drewN ?_ _ | refine blk_drew ?_ | refine blk_alloc ?_ _)); exact BK105.out) hb); have n2_ := Aside0.mk (blk_below (g := gb110) (o := .cells #[.int .u8 ((rd_T65 l0_1 x24_1).f0), .int .i64 ((rd_T65 l0_1 x24_1).f1), .int .i64 ((rd_T65 l0_1 x24_1).f2), .float .f64 ((rd_T65 l0_1 x24_1).f3), .slice A109_4 ((rd_T65 l0_1 x24_1).f4).length c109_4, .int .u8 ((rd_T65 l0_1 x24_1).f5), .int .i64 ((rd_T65 l0_1 x24_1).f6), .int .i64 ((rd_T65 l0_1 x24_1).f7)] 65 (0, 0)) (by (with_reducible repeat (first | refine blk_drewN ?_ _ | refine blk_drew ?_ | refine blk_alloc ?_ _)); refine blk_put (cs := #[.int .u8 ((rd_T65 l0_1 x24_1).f0), .int .i64 ((rd_T65 l0_1 x24_1).f1), .int .i64 ((rd_T65 l0_1 x24_1).f2), .float .f64 ((rd_T65 l0_1 x24_1).f3), .slice A109_4 ((rd_T65 l0_1 x24_1).f4).length c109_4, .int .u8 ((rd_T65 l0_1 x24_1).f5), .int .i64 ((rd_T65 l0_1 x24_1).f6), .int .i64 0]) ?_ 7 _ rfl; (with_reducible repeat (first | refine blk_drewN ?_ _ | refine blk_drew ?_ | refine blk_alloc ?_ _)); refine blk_put (cs := #[.int .u8 ((rd_T65 l0_1 x24_1).f0), .int .i64 ((rd_T65 l0_1 x24_1).f1), .int .i64 ((rd_T65 l0_1 x24_1).f2), .float .f64 ((rd_T65 l0_1 x24_1).f3), .slice A109_4 ((rd_T65 l0_1 x24_1).f4).length c109_4, .int .u8 ((rd_T65 l0_1 x24_1).f5), .int .i64 0, .int .i64 0]) ?_ 6 _ rfl; (with_reducible repeat (first | refine blk_drewN ?_ _ | refine blk_drew ?_ | refine blk_alloc ?_ _)); refine blk_put (cs := #[.int .u8 ((rd_T65 l0_1 x24_1).f0), .int .i64 ((rd_T65 l0_1 x24_1).f1), .int .i64 ((rd_T65 l0_1 x24_1).f2), .float .f64 ((rd_T65 l0_1 x24_1).f3), .slice A109_4 ((rd_T65 l0_1 x24_1).f4).length c109_4, .int .u8 0, .int .i64 0, .int .i64 0]) ?_ 5 _ rfl; (with_reducible repeat (first | refine blk_drewN ?_ _ | refine blk_drew ?_ | refine blk_alloc ?_ _)); refine blk_put (cs := #[.int .u8 ((rd_T65 l0_1 x24_1).f0), .int .i64 ((rd_T65 l0_1 x24_1).f1), .int .i64 ((rd_T65 l0_1 x24_1).f2), .float .f64 ((rd_T65 l0_1 x24_1).f3), .slice none 0 0, .int .u8 0, .int .i64 0, .int .i64 0]) ?_ 4 _ rfl; (with_reducible repeat (first | refine blk_drewN ?_ _ | refine blk_drew ?_ | refine blk_alloc ?_ _)); refine blk_put (cs := #[.int .u8 ((rd_T65 l0_1 x24_1).f0), .int .i64 ((rd_T65 l0_1 x24_1).f1), .int .i64 ((rd_T65 l0_1 x24_1).f2), .float .f64 0, .slice none 0 0, .int .u8 0, .int .i64 0, .int .i64 0]) ?_ 3 _ rfl; (with_reducible repeat (first | refine blk_drewN ?_ _ | refine blk_drew ?_ | refine blk_alloc ?_ _)); refine blk_put (cs := #[.int .u8 ((rd_T65 l0_1 x24_1).f0), .int .i64 ((rd_T65 l0_1 x24_1).f1), .int .i64 0, .float .f64 0, .slice none 0 0, .int .u8 0, .int .i64 0, .int .i64 0]) ?_ 2 _ rfl; (with_reducible repeat (first | refine blk_drewN ?_ _ | refine blk_drew ?_ | refine blk_alloc ?_ _)); refine blk_put (cs := #[.int .u8 ((rd_T65 l0_1 x24_1).f0), .int .i64 0, .int .i64 0, .float .f64 0, .slice none 0 0, .int .u8 0, .int .i64 0, .int .i64 0]) ?_ 1 _ rfl; (with_reducible repeat (first | refine blk_drewN ?_ _ | refine blk_drew ?_ | refine blk_alloc ?_ _)); refine blk_put (cs := #[.int .u8 0, .int .i64 0, .int .i64 0, .float .f64 0, .slice none 0 0, .int .u8 0, .int .i64 0, .int .i64 0]) ?_ 0 _ rfl; (with_reducible repeat (first | refine blk_drewN ?_ _ | refine blk_drew ?_ | refine blk_alloc ?_ _)); exact BK110.out) hb); have n3_ := Aside0.mk (below_step (kB2 HB GE105 GE110) hb); clear HO_4; clear BK105; clear BK110; clear HB; have HO_4 := n0_; have BK105 := n1_; have BK110 := n2_; have HB := n3_; clear n0_ n1_ n2_ n3_; (try clear hb); (try clear hb2); (try clear hk); (try clear hi)))
          go_ret2
          exact ⟨by first | rfl | (simp [errW_none, errW_some] <;> rfl) | (simp [*, errW_none, errW_some] <;> rfl), kB2 HB GE105 GE110⟩
        ·rw [if_neg c14] at H
         exact absurd H (by simp)
       ·rw [if_neg c13] at H
        exact absurd H (by simp)
      ·rw [if_neg c12] at H
       have c12b0 : decide (x24_1 < (l0_1.length : Int)) = false := decide_eq_false c12
       clear c12
       by_cases c51 : 0 ≤ (l0_1.length : Int)
       ·rw [if_pos c51] at H
        have c51b0 := eq_true c51
        have c51b1 : decide (0 ≤ (l0_1.length : Int)) = true := decide_eq_true c51
        clear c51
        by_cases c52 : ((l0_1.length : Int) : Int).toNat ≤ 281474976710656
        ·rw [if_pos c52] at H
         have c52b0 := eq_true c52
         have c52b1 : decide (((l0_1.length : Int) : Int).toNat ≤ 281474976710656) = true := decide_eq_true c52
         clear c52
         obtain ⟨y117, hy117⟩ : ∃ y_ : List Bool, y_ = (List.replicate ((l0_1.length : Int) : Int).toNat false) := ⟨_, rfl⟩
         replace H : (trees_Shape.l1 k1 x4_1 y117 (([0] : List Int)) a0_0 l0_1) = some (r1, r2) := by first | (rw [hy117]; with_reducible exact H) | (have H2_ := (Option.bind_some _ _).symm.trans H; rw [hy117]; with_reducible exact H2_) | (have H2_ := (Option.bind_some _ _).symm.trans H; with_reducible exact H2_) | with_reducible exact H | (rw [hy117]; exact H) | exact H
         have Ny117 := Aside0.mk hy117
         clear hy117
         obtain ⟨y120, hy120⟩ : ∃ y_ : List Int, y_ = (([0] : List Int)) := ⟨_, rfl⟩
         replace H : (trees_Shape.l1 k1 x4_1 y117 y120 a0_0 l0_1) = some (r1, r2) := by first | (rw [hy120]; with_reducible exact H) | (have H2_ := (Option.bind_some _ _).symm.trans H; rw [hy120]; with_reducible exact H2_) | (have H2_ := (Option.bind_some _ _).symm.trans H; with_reducible exact H2_) | with_reducible exact H | (rw [hy120]; exact H) | exact H
         have Ny120 := Aside0.mk hy120
         clear hy120
         have H' := Aside0.mk H
         clear H
         have hcz53 := blk2 (w := wr) BK105.out
         go_wp2_with (first | ((with_reducible refine gate_dst (N := 56) rfl ?_); refine Kd.R_make Kd.bool _ 4 rfl (N := 56) rfl 27 _ _ rfl (l0_1.length : Int) rfl rfl Tryd.underlying27 (.bool false) 1 info4 rfl (by decide) (by omega) false (ok := fun _ => True) (okp := fun _ => True) rfl (fun _ hk => hk) trivial (of_decide_eq_true ka) (Nat.le_trans (Nat.mul_le_mul_right _ (of_decide_eq_true ka : (l0_1.length : Int).toNat ≤ 281474976710656)) (by omega)) (Below.refl _ _) (Nat.le_refl _) ?_; intro v118 w54 ho55 hb hg_ hnew_; clear hg_ hnew_; (first | rw [← Ny117.out] at ho55 | (simp only [Int.reduceToNat] at ho55; rw [← Ny117.out] at ho55)); have n0_ := Aside0.mk (Kd.R_below (kR HO_4) hb); have n1_ := Aside0.mk (Kd.R_lower ho55 (below_size (kB1 HB GE105))); have n2_ := Aside0.mk (blk_below (g := gb105) (o := .cells #[.int .i64 a0_0, .slice A0_1 l0_1.length c0_1] 37 (0, 0)) (kb BK105) hb); have n3_ := Aside0.mk (below_step (kB1 HB GE105) hb); clear HO_4; clear BK105; clear HB; have HO_4 := n0_; have HO119 := n1_; have BK105 := n2_; have HB := n3_; clear n0_ n1_ n2_ n3_; clear hb ho55) | ((with_reducible refine gate_dst (N := 57) rfl ?_); refine Kd.R_lit (Kd.int .i64) _ 3 ?hg (N := 57) ?hd (xs := ([0] : List Int)) (inner := [.int .i64 0]) (ok := fun _ => True) (okp := fun _ => True) ?hr ?hp (fun _ hk => hk) trivial (Below.refl _ _) (Nat.le_refl _) (by simp) ?_; (case hd => rfl); (case hg => rfl); (case hr => first | (go_simp; done) | (go_simp; rfl)); (case hp => exact (Reps.one (show Kd.M (Kd.int .i64) _ _ _ 0 [.int .i64 0] from rfl) (Reps.none _ _))); intro v121 w56 ho57 hb hg_ hnew_; clear hg_ hnew_; (first | rw [← Ny120.out] at ho57 | (simp only [Int.reduceToNat] at ho57; rw [← Ny120.out] at ho57)); have n0_ := Aside0.mk (Kd.R_elder' (kR HO_4) (Kd.R_base ho57) hb); have n1_ := Aside0.mk (Kd.R_below (kR HO119) hb); have n2_ := Aside0.mk (Kd.R_lower (Kd.R_new' ho57 (Kd.R_lt (kR HO_4))) (below_size (kB1 HB GE105))); have n3_ := Aside0.mk (blk_below (g := gb105) (o := .cells #[.int .i64 a0_0, .slice A0_1 l0_1.length c0_1] 37 (0, 0)) (kb BK105) hb); have n4_ := Aside0.mk (below_step (kB1 HB GE105) hb); clear HO_4; clear HO119; clear BK105; clear HB; have HO_4 := n0_; have HO119 := n1_; have HO122 := n2_; have BK105 := n3_; have HB := n4_; clear n0_ n1_ n2_ n3_ n4_; clear hb ho57))
         go_loopg [8] k1 (fun kq v8 w' => ∃ (x7_2 : List Bool) (x8_2 : List Int), Aside0 (trees_Shape.l1 kq x4_1 x7_2 x8_2 a0_0 l0_1 = some (r1, r2)) ∧ Aside0 (kq ≤ k1) ∧ Aside0 (Kd.R (Kd.int .i64) 3 w' w.heap.size (fun k_ => some k_ ≠ (v8 : Value).ownBlock) v107 x4_1) ∧ Aside0 (Kd.R Kd.bool 4 w' w.heap.size (fun _ => True) v118 x7_2) ∧ Aside0 (Kd.R (Kd.int .i64) 3 w' w.heap.size (fun k_ => some k_ ≠ (v107 : Value).ownBlock) v8 x8_2) ∧ Aside0 (w'.heap[gb105]? = some (.cells #[.int .i64 a0_0, (.slice A0_1 l0_1.length c0_1)] 37 (0, 0))) ∧ Aside0 (Below w.heap.size w w'))
         case atStart => exact ⟨(y117), (y120), H', ⟨Nat.le_refl _⟩, ⟨by (with_reducible repeat (first | apply Kd.R_alloc | apply Kd.R_drewN | apply Kd.R_drew)); exact Kd.R_mono HO_4.out (fun _ hk => hk.2)⟩, ⟨kR HO119⟩, ⟨by (with_reducible repeat (first | apply Kd.R_alloc | apply Kd.R_drewN | apply Kd.R_drew)); exact Kd.R_mono HO122.out (fun _ hk => hk.2)⟩, ⟨kb BK105⟩, ⟨kB1 HB GE105⟩⟩
         case round =>
          clear H'
          try clear c1
          try clear p1
          try clear q1
          try clear hx1
          try clear c2
          try clear c2b0
          try clear c2b1
          try clear c2b2
          try clear p2
          try clear q2
          try clear hx2
          try clear hf2
          try clear c4
          try clear c5
          try clear c5b0
          try clear c5b1
          try clear c6
          try clear c6b0
          try clear c6b1
          try clear p6
          try clear c10
          try clear p10
          try clear q10
          try clear hx10
          try clear p11
          try clear q11
          try clear hx11
          try clear c12
          try clear c12b0
          try clear c13
          try clear c13b0
          try clear c14
          try clear c14b0
          try clear c16
          try clear c18
          try clear c19
          try clear c19b0
          try clear c20
          try clear c20b0
          try clear p21
          try clear q21
          try clear hx21
          try clear hf21
          try clear c22
          try clear c22b0
          try clear c23
          try clear c23b0
          try clear p24
          try clear q24
          try clear hx24
          try clear hf24
          try clear c26
          try clear c40
          try clear c41
          try clear c44
          try clear c47
          try clear c51
          try clear c51b0
          try clear c51b1
          try clear c52
          try clear c52b0
          try clear c52b1
          try clear hcz11
          try clear hcz27
          try clear hcz28
          try clear hcz30
          try clear hcz32
          try clear hcz36
          try clear hcz41
          try clear hcz42
          try clear hcz44
          try clear hcz48
          try clear hcz49
          try clear hcz4
          try clear hcz53
          try clear hcz8
          try clear hx109_0
          try clear hx109_1
          try clear hx109_2
          try clear hx109_3
          try clear hx109_4
          try clear hx109_5
          try clear hx109_6
          try clear hx109_7
          try clear hx113_0
          try clear hx115_0
          try clear hx21_0
          try clear hx24_0
          try clear p109
          try clear p113
          try clear p115
          try clear q109
          try clear q113
          try clear q115
          obtain ⟨x7_2, x8_2, HA, HK2, HO_4, HO_7, HO_8, BK105, HB⟩ := hrel
          cases gk with
          | zero => exact absurd HA.out (by simp [trees_Shape.l1])
          | succ k2 =>
           have H := HA.out
           clear HA
           simp only [trees_Shape.l1] at H
           by_cases c58 : (x8_2.length : Int) > 0
           ·rw [if_pos c58] at H
            have c58b0 : decide (0 < (x8_2.length : Int)) = true := decide_eq_true c58
            have c58b1 : decide (0 < x8_2.length) = true := decide_eq_true (by omega)
            clear c58
            obtain ⟨ji59, hji59⟩ : ∃ j_ : Int, (wrap64 ((x8_2.length : Int) - 1)) = j_ := ⟨_, rfl⟩
            replace H : (if 0 ≤ (ji59) then (if (ji59) < (x8_2.length : Int) then (if (ji59) ≤ (x8_2.length : Int) then ((some (x8_2.take ((ji59) : Int).toNat : List Int)).bind fun y124 => (if 0 ≤ (rd x8_2 (ji59)) then (if (rd x8_2 (ji59)) < (x7_2.length : Int) then (if rdOf false x7_2 (rd x8_2 (ji59)) = true then (trees_Shape.l1 k2 x4_1 x7_2 y124 a0_0 l0_1) else ((some (x7_2.set ((rd x8_2 (ji59)) : Int).toNat true : List Bool)).bind fun y128 => (if (rd x8_2 (ji59)) < (l0_1.length : Int) then ((trees_inner.f ((rd_T65 l0_1 (rd x8_2 (ji59))).f0) ((rd_T65 l0_1 (rd x8_2 (ji59))).f1) ((rd_T65 l0_1 (rd x8_2 (ji59))).f2) ((rd_T65 l0_1 (rd x8_2 (ji59))).f3) ((rd_T65 l0_1 (rd x8_2 (ji59))).f4) ((rd_T65 l0_1 (rd x8_2 (ji59))).f5) ((rd_T65 l0_1 (rd x8_2 (ji59))).f6) ((rd_T65 l0_1 (rd x8_2 (ji59))).f7)).bind fun t131 => (if t131 = true then ((some (([(rd_T65 l0_1 (rd x8_2 (ji59))).f6, (rd_T65 l0_1 (rd x8_2 (ji59))).f7] : List Int) : List Int)).bind fun y132 => (if y124.length + y132.length < 17592186044416 then (trees_Shape.l1 k2 x4_1 y128 (y124 ++ y132) a0_0 l0_1) else (none))) else (trees_Shape.l1 k2 x4_1 y128 y124 a0_0 l0_1))) else (none)))) else (none)) else (none))) else (none)) else (none)) else (none)) = some (r1, r2) := by first | (rw [hji59] at H; exact H) | (simp only [hji59] at H ⊢; exact H)
            have hji59w : (IntKind.i64.wrap ((x8_2.length : Int) - 1)) = ji59 := (i64_w _).trans hji59
            by_cases c60 : 0 ≤ (ji59)
            ·rw [if_pos c60] at H
             have c60b0 : decide (0 ≤ (ji59)) = true := decide_eq_true c60
             clear c60
             by_cases c61 : (ji59) < (x8_2.length : Int)
             ·rw [if_pos c61] at H
              have c61b0 : decide ((ji59) < (x8_2.length : Int)) = true := decide_eq_true c61
              clear c61
              by_cases c62 : (ji59) ≤ (x8_2.length : Int)
              ·rw [if_pos c62] at H
               have c62b0 := eq_true c62
               have c62b1 : decide ((ji59) ≤ (x8_2.length : Int)) = true := decide_eq_true c62
               clear c62
               obtain ⟨y124, hy124⟩ : ∃ y_ : List Int, y_ = (x8_2.take ((ji59) : Int).toNat) := ⟨_, rfl⟩
               replace H : (if 0 ≤ (rd x8_2 (ji59)) then (if (rd x8_2 (ji59)) < (x7_2.length : Int) then (if rdOf false x7_2 (rd x8_2 (ji59)) = true then (trees_Shape.l1 k2 x4_1 x7_2 y124 a0_0 l0_1) else ((some (x7_2.set ((rd x8_2 (ji59)) : Int).toNat true : List Bool)).bind fun y128 => (if (rd x8_2 (ji59)) < (l0_1.length : Int) then ((trees_inner.f ((rd_T65 l0_1 (rd x8_2 (ji59))).f0) ((rd_T65 l0_1 (rd x8_2 (ji59))).f1) ((rd_T65 l0_1 (rd x8_2 (ji59))).f2) ((rd_T65 l0_1 (rd x8_2 (ji59))).f3) ((rd_T65 l0_1 (rd x8_2 (ji59))).f4) ((rd_T65 l0_1 (rd x8_2 (ji59))).f5) ((rd_T65 l0_1 (rd x8_2 (ji59))).f6) ((rd_T65 l0_1 (rd x8_2 (ji59))).f7)).bind fun t131 => (if t131 = true then ((some (([(rd_T65 l0_1 (rd x8_2 (ji59))).f6, (rd_T65 l0_1 (rd x8_2 (ji59))).f7] : List Int) : List Int)).bind fun y132 => (if y124.length + y132.length < 17592186044416 then (trees_Shape.l1 k2 x4_1 y128 (y124 ++ y132) a0_0 l0_1) else (none))) else (trees_Shape.l1 k2 x4_1 y128 y124 a0_0 l0_1))) else (none)))) else (none)) else (none)) = some (r1, r2) := by first | (rw [hy124]; with_reducible exact H) | (have H2_ := (Option.bind_some _ _).symm.trans H; rw [hy124]; with_reducible exact H2_) | (have H2_ := (Option.bind_some _ _).symm.trans H; with_reducible exact H2_) | with_reducible exact H | (rw [hy124]; exact H) | exact H
               have Ny124 := Aside0.mk hy124
               clear hy124
               by_cases c63 : 0 ≤ (rd x8_2 (ji59))
               ·rw [if_pos c63] at H
                have c63b0 : decide (0 ≤ (rd x8_2 (ji59))) = true := decide_eq_true c63
                clear c63
                by_cases c64 : (rd x8_2 (ji59)) < (x7_2.length : Int)
                ·rw [if_pos c64] at H
                 have c64b0 : decide ((rd x8_2 (ji59)) < (x7_2.length : Int)) = true := decide_eq_true c64
                 clear c64
                 obtain ⟨bq65, hbq65⟩ : ∃ b_ : Bool, b_ = (rdOf false x7_2 (rd x8_2 (ji59))) := ⟨_, rfl⟩
                 replace H : (if bq65 = true then (trees_Shape.l1 k2 x4_1 x7_2 y124 a0_0 l0_1) else ((some (x7_2.set ((rd x8_2 (ji59)) : Int).toNat true : List Bool)).bind fun y128 => (if (rd x8_2 (ji59)) < (l0_1.length : Int) then ((trees_inner.f ((rd_T65 l0_1 (rd x8_2 (ji59))).f0) ((rd_T65 l0_1 (rd x8_2 (ji59))).f1) ((rd_T65 l0_1 (rd x8_2 (ji59))).f2) ((rd_T65 l0_1 (rd x8_2 (ji59))).f3) ((rd_T65 l0_1 (rd x8_2 (ji59))).f4) ((rd_T65 l0_1 (rd x8_2 (ji59))).f5) ((rd_T65 l0_1 (rd x8_2 (ji59))).f6) ((rd_T65 l0_1 (rd x8_2 (ji59))).f7)).bind fun t131 => (if t131 = true then ((some (([(rd_T65 l0_1 (rd x8_2 (ji59))).f6, (rd_T65 l0_1 (rd x8_2 (ji59))).f7] : List Int) : List Int)).bind fun y132 => (if y124.length + y132.length < 17592186044416 then (trees_Shape.l1 k2 x4_1 y128 (y124 ++ y132) a0_0 l0_1) else (none))) else (trees_Shape.l1 k2 x4_1 y128 y124 a0_0 l0_1))) else (none)))) = some (r1, r2) := by rw [← hbq65] at H; exact H
                 have Nbq65 := Aside0.mk hbq65
                 clear hbq65
                 by_cases c66 : bq65 = true
                 ·subst c66
                  have H1 : (trees_Shape.l1 k2 x4_1 x7_2 y124 a0_0 l0_1) = some (r1, r2) := by rw [if_pos rfl] at H; exact H
                  clear H
                  have H := H1
                  clear H1
                  have H' := Aside0.mk H
                  clear H
                  obtain ⟨Ao67, co67, eo67⟩ := Kd.R_slice HO_8.out
                  subst eo67
                  have p123 : 0 ≤ ((ji59) : Int) := of_decide_eq_true ka
                  have q123 : (ji59) < (x8_2.length : Int) := of_decide_eq_true ka
                  obtain ⟨ad123, e123, hx123_0⟩ := Kd.at_int (Kd.R_reads' HO_8.out).2.2 (ji59) p123 q123
                  cases e123
                  replace p123 := eq_true p123
                  replace q123 := eq_true q123
                  have q68 : ((ji59) : Int) ≤ ((x8_2.length : Int) : Int) := of_decide_eq_true ka
                  obtain ⟨i068, hi068, _, hsz68, _⟩ := info_parts info3
                  have hcut68 := cut_to (P := Tryd.prog) 56 3 .i64 Tryd.underlying56 hi068 (some ad123) x8_2.length co67 (ji59) (of_decide_eq_true ka) q68 (Kd.R_reads' HO_8.out).2.1
                  have hr68 := Kd.R_take (m := ((ji59) : Int).toNat) HO_8.out (by omega)
                  have hy68 : y124.length = ((ji59) : Int).toNat := (by rw [Ny124.out, List.length_take]; omega)
                  rw [← Ny124.out] at hr68
                  rw [← hy68] at hr68 hcut68
                  clear hy68 hi068 hsz68 HO_8
                  have HO126 := Aside0.mk hr68
                  clear hr68
                  replace q68 := eq_true q68
                  obtain ⟨Ao69, co69, eo69⟩ := Kd.R_slice HO_7.out
                  subst eo69
                  have p127 : 0 ≤ ((rd x8_2 (ji59)) : Int) := of_decide_eq_true ka
                  have q127 : (rd x8_2 (ji59)) < (x7_2.length : Int) := of_decide_eq_true ka
                  obtain ⟨ad127, e127, hx127_0⟩ := Kd.at_bool (Kd.R_reads' HO_7.out).2.2 (rd x8_2 (ji59)) p127 q127
                  (try rw [← Nbq65.out] at hx127_0)
                  cases e127
                  replace p127 := eq_true p127
                  replace q127 := eq_true q127
                  go_wp2
                  go_roundg k2
                  case measure => have := HK1.out; have := HK2.out; omega
                  case rel => exact ⟨(x7_2), (y124), H', ⟨by have := HK1.out; have := HK2.out; omega⟩, ⟨kR HO_4⟩, ⟨kR HO_7⟩, ⟨kR HO126⟩, ⟨kb BK105⟩, ⟨kB1 HB GE105⟩⟩
                 ·replace c66 := Bool.eq_false_iff.mpr c66
                  subst c66
                  have H1 : ((some (x7_2.set ((rd x8_2 (ji59)) : Int).toNat true : List Bool)).bind fun y128 => (if (rd x8_2 (ji59)) < (l0_1.length : Int) then ((trees_inner.f ((rd_T65 l0_1 (rd x8_2 (ji59))).f0) ((rd_T65 l0_1 (rd x8_2 (ji59))).f1) ((rd_T65 l0_1 (rd x8_2 (ji59))).f2) ((rd_T65 l0_1 (rd x8_2 (ji59))).f3) ((rd_T65 l0_1 (rd x8_2 (ji59))).f4) ((rd_T65 l0_1 (rd x8_2 (ji59))).f5) ((rd_T65 l0_1 (rd x8_2 (ji59))).f6) ((rd_T65 l0_1 (rd x8_2 (ji59))).f7)).bind fun t131 => (if t131 = true then ((some (([(rd_T65 l0_1 (rd x8_2 (ji59))).f6, (rd_T65 l0_1 (rd x8_2 (ji59))).f7] : List Int) : List Int)).bind fun y132 => (if y124.length + y132.length < 17592186044416 then (trees_Shape.l1 k2 x4_1 y128 (y124 ++ y132) a0_0 l0_1) else (none))) else (trees_Shape.l1 k2 x4_1 y128 y124 a0_0 l0_1))) else (none))) = some (r1, r2) := by rw [if_neg (show ¬ (false = true) by decide)] at H; exact H
                  clear H
                  have H := H1
                  clear H1
                  obtain ⟨y128, hy128⟩ : ∃ y_ : List Bool, y_ = (x7_2.set ((rd x8_2 (ji59)) : Int).toNat true) := ⟨_, rfl⟩
                  replace H : (if (rd x8_2 (ji59)) < (l0_1.length : Int) then ((trees_inner.f ((rd_T65 l0_1 (rd x8_2 (ji59))).f0) ((rd_T65 l0_1 (rd x8_2 (ji59))).f1) ((rd_T65 l0_1 (rd x8_2 (ji59))).f2) ((rd_T65 l0_1 (rd x8_2 (ji59))).f3) ((rd_T65 l0_1 (rd x8_2 (ji59))).f4) ((rd_T65 l0_1 (rd x8_2 (ji59))).f5) ((rd_T65 l0_1 (rd x8_2 (ji59))).f6) ((rd_T65 l0_1 (rd x8_2 (ji59))).f7)).bind fun t131 => (if t131 = true then ((some (([(rd_T65 l0_1 (rd x8_2 (ji59))).f6, (rd_T65 l0_1 (rd x8_2 (ji59))).f7] : List Int) : List Int)).bind fun y132 => (if y124.length + y132.length < 17592186044416 then (trees_Shape.l1 k2 x4_1 y128 (y124 ++ y132) a0_0 l0_1) else (none))) else (trees_Shape.l1 k2 x4_1 y128 y124 a0_0 l0_1))) else (none)) = some (r1, r2) := by first | (rw [hy128]; with_reducible exact H) | (have H2_ := (Option.bind_some _ _).symm.trans H; rw [hy128]; with_reducible exact H2_) | (have H2_ := (Option.bind_some _ _).symm.trans H; with_reducible exact H2_) | with_reducible exact H | (rw [hy128]; exact H) | exact H
                  have Ny128 := Aside0.mk hy128
                  clear hy128
                  by_cases c71 : (rd x8_2 (ji59)) < (l0_1.length : Int)
                  ·rw [if_pos c71] at H
                   have c71b0 : decide ((rd x8_2 (ji59)) < (l0_1.length : Int)) = true := decide_eq_true c71
                   clear c71
                   replace H := Option.bind_eq_some_iff.mp H
                   obtain ⟨t131, A720, H⟩ := H
                   replace H : (if t131 = true then ((some (([(rd_T65 l0_1 (rd x8_2 (ji59))).f6, (rd_T65 l0_1 (rd x8_2 (ji59))).f7] : List Int) : List Int)).bind fun y132 => (if y124.length + y132.length < 17592186044416 then (trees_Shape.l1 k2 x4_1 y128 (y124 ++ y132) a0_0 l0_1) else (none))) else (trees_Shape.l1 k2 x4_1 y128 y124 a0_0 l0_1)) = some (r1, r2) := H
                   have A72 := Aside0.mk A720
                   clear A720
                   by_cases c73 : t131 = true
                   ·subst c73
                    have H1 : ((some (([(rd_T65 l0_1 (rd x8_2 (ji59))).f6, (rd_T65 l0_1 (rd x8_2 (ji59))).f7] : List Int) : List Int)).bind fun y132 => (if y124.length + y132.length < 17592186044416 then (trees_Shape.l1 k2 x4_1 y128 (y124 ++ y132) a0_0 l0_1) else (none))) = some (r1, r2) := by rw [if_pos rfl] at H; exact H
                    clear H
                    have H := H1
                    clear H1
                    obtain ⟨y132, hy132⟩ : ∃ y_ : List Int, y_ = (([(rd_T65 l0_1 (rd x8_2 (ji59))).f6, (rd_T65 l0_1 (rd x8_2 (ji59))).f7] : List Int)) := ⟨_, rfl⟩
                    replace H : (if y124.length + y132.length < 17592186044416 then (trees_Shape.l1 k2 x4_1 y128 (y124 ++ y132) a0_0 l0_1) else (none)) = some (r1, r2) := by first | (rw [hy132]; with_reducible exact H) | (have H2_ := (Option.bind_some _ _).symm.trans H; rw [hy132]; with_reducible exact H2_) | (have H2_ := (Option.bind_some _ _).symm.trans H; with_reducible exact H2_) | with_reducible exact H | (rw [hy132]; exact H) | exact H
                    have Ny132 := Aside0.mk hy132
                    clear hy132
                    by_cases c74 : y124.length + y132.length < 17592186044416
                    ·rw [if_pos c74] at H
                     have LMc74 := Aside0.mk c74
                     clear c74
                     obtain ⟨y135, hy135⟩ : ∃ y_ : List Int, y_ = (y124 ++ y132) := ⟨_, rfl⟩
                     replace H : (trees_Shape.l1 k2 x4_1 y128 y135 a0_0 l0_1) = some (r1, r2) := by first | (rw [hy135]; with_reducible exact H) | (have H2_ := (Option.bind_some _ _).symm.trans H; rw [hy135]; with_reducible exact H2_) | (have H2_ := (Option.bind_some _ _).symm.trans H; with_reducible exact H2_) | with_reducible exact H | (rw [hy135]; exact H) | exact H
                     have Ny135 := Aside0.mk hy135
                     clear hy135
                     have H' := Aside0.mk H
                     clear H
                     obtain ⟨Ao75, co75, eo75⟩ := Kd.R_slice HO_8.out
                     subst eo75
                     have p123 : 0 ≤ ((ji59) : Int) := of_decide_eq_true ka
                     have q123 : (ji59) < (x8_2.length : Int) := of_decide_eq_true ka
                     obtain ⟨ad123, e123, hx123_0⟩ := Kd.at_int (Kd.R_reads' HO_8.out).2.2 (ji59) p123 q123
                     cases e123
                     replace p123 := eq_true p123
                     replace q123 := eq_true q123
                     have q76 : ((ji59) : Int) ≤ ((x8_2.length : Int) : Int) := of_decide_eq_true ka
                     obtain ⟨i076, hi076, _, hsz76, _⟩ := info_parts info3
                     have hcut76 := cut_to (P := Tryd.prog) 56 3 .i64 Tryd.underlying56 hi076 (some ad123) x8_2.length co75 (ji59) (of_decide_eq_true ka) q76 (Kd.R_reads' HO_8.out).2.1
                     have hr76 := Kd.R_take (m := ((ji59) : Int).toNat) HO_8.out (by omega)
                     have hy76 : y124.length = ((ji59) : Int).toNat := (by rw [Ny124.out, List.length_take]; omega)
                     rw [← Ny124.out] at hr76
                     rw [← hy76] at hr76 hcut76
                     clear hy76 hi076 hsz76 HO_8
                     have HO126 := Aside0.mk hr76
                     clear hr76
                     replace q76 := eq_true q76
                     obtain ⟨Ao77, co77, eo77⟩ := Kd.R_slice HO_7.out
                     subst eo77
                     have p127 : 0 ≤ ((rd x8_2 (ji59)) : Int) := of_decide_eq_true ka
                     have q127 : (rd x8_2 (ji59)) < (x7_2.length : Int) := of_decide_eq_true ka
                     obtain ⟨ad127, e127, hx127_0⟩ := Kd.at_bool (Kd.R_reads' HO_7.out).2.2 (rd x8_2 (ji59)) p127 q127
                     (try rw [← Nbq65.out] at hx127_0)
                     cases e127
                     replace p127 := eq_true p127
                     replace q127 := eq_true q127
                     have p70 : 0 ≤ ((rd x8_2 (ji59)) : Int) := of_decide_eq_true ka
                     have q70 : ((rd x8_2 (ji59)) : Int) < ((x7_2.length : Int) : Int) := of_decide_eq_true ka
                     obtain ⟨go70, co70, eo70, gb70, gl70, cl70, HG70⟩ := Kd.R_form HO_7.out (by omega)
                     (first | cases eo70 | (injection eo70 with ea_ en_ ec_; (first | subst ea_ | (injection ea_ with ea_; subst ea_)); subst ec_; clear en_))
                     have GB70 := Aside0.mk gb70
                     have GG70 := Aside0.mk HG70
                     clear gb70 gl70 HG70
                     (first | simp only [add_plain] at hx127_0 | skip)
                     obtain ⟨hx70_0, hf70_0⟩ := Kd.R_celln false HO_7.out ((rd x8_2 (ji59)) : Int) p70 q70
                     replace p70 := eq_true p70
                     replace q70 := eq_true q70
                     have HP78 := Kd.R_putg HO_7.out ((rd x8_2 (ji59)) : Int) true
                     go_wp2_with (first | ((with_reducible refine gate_store (t := 4) (p := 78) rfl ?_); refine store_event (t := 4) (p := 78) (v := ?vo_w79) (w1 := (wr.setCell ⟨go70, ((rd x8_2 (ji59)) : Int).toNat, none⟩ (.bool true))) ?hg ?ho ?hn ?hr ?_; (case ho => rfl); (case hg => rfl); (case hn => rfl); (case hr => first | (go_simp; done) | (go_simp; rfl)); intro w79 hw; have hg : wr.grownBy w79 (some go70) := (by rw [hw]; exact HP78.2); have hp_ : Kd.R Kd.bool 4 w79 w.heap.size (fun _ => True) (.slice (some ⟨go70, 0, none⟩) x7_2.length co77) y128 := (by rw [hw, Ny128.out]; exact HP78.1); clear HP78; have n0_ := Aside0.mk (Kd.R_over' (v := (.slice (some ⟨go70, 0, none⟩) x7_2.length co77)) (kR HO_4) (Kd.R_typed HO_7.out) (by decide) hg); have n1_ := Aside0.mk (hp_); have n2_ := Aside0.mk (Kd.R_over' (v := (.slice (some ⟨go70, 0, none⟩) x7_2.length co77)) (kR HO126) (Kd.R_typed HO_7.out) (by decide) hg); have n3_ := Aside0.mk (blk_grown (g := gb105) (o := .cells #[.int .i64 a0_0, .slice A0_1 l0_1.length c0_1] 37 (0, 0)) (kb BK105) hg (Kd.R_ne HO_7.out BK105.out (by decide))); have n4_ := Aside0.mk ((by rw [hw]; exact below_set (HB.out) GB70.out : Below w.heap.size w w79)); clear HO_4; clear HO_7; clear HO126; clear BK105; clear HB; have HO_4 := n0_; have HO_7 := n1_; have HO126 := n2_; have BK105 := n3_; have HB := n4_; clear n0_ n1_ n2_ n3_ n4_; clear hg hw hp_; have hcz80 := blk2 (w := w79) BK105.out; have p129 : 0 ≤ ((rd x8_2 (ji59)) : Int) := of_decide_eq_true ka; have q129 : (rd x8_2 (ji59)) < (l0_1.length : Int) := of_decide_eq_true ka; obtain ⟨ad129, A129_4, c129_4, e129, hx129_0, hx129_1, hx129_2, hx129_3, hx129_4, hx129_5, hx129_6, hx129_7, hl129_4, hi129_4⟩ := at_T65 HR0_1.out (rd x8_2 (ji59)) p129 q129; cases e129; replace hx129_0 := (HB.out.cell (World.block_lt_of_cell? w _ hx129_0)).trans hx129_0; replace hx129_1 := (HB.out.cell (World.block_lt_of_cell? w _ hx129_1)).trans hx129_1; replace hx129_2 := (HB.out.cell (World.block_lt_of_cell? w _ hx129_2)).trans hx129_2; replace hx129_3 := (HB.out.cell (World.block_lt_of_cell? w _ hx129_3)).trans hx129_3; replace hx129_4 := (HB.out.cell (World.block_lt_of_cell? w _ hx129_4)).trans hx129_4; replace hx129_5 := (HB.out.cell (World.block_lt_of_cell? w _ hx129_5)).trans hx129_5; replace hx129_6 := (HB.out.cell (World.block_lt_of_cell? w _ hx129_6)).trans hx129_6; replace hx129_7 := (HB.out.cell (World.block_lt_of_cell? w _ hx129_7)).trans hx129_7; have HR129_4 := Aside0.mk hi129_4; have HC129_4 := Aside0.mk hl129_4; clear hi129_4 hl129_4; replace p129 := eq_true p129; replace q129 := eq_true q129) | ((with_reducible refine gate_dst (N := 10) rfl ?_); refine box_event ?hg (N := 10) ?hd (cs := #[.int .u8 0, .int .i64 0, .int .i64 0, .float .f64 0, .slice none 0 0, .int .u8 0, .int .i64 0, .int .i64 0]) (t := 65) ?hr ?_; (case hd => rfl); (case hg => rfl); (case hr => first | (go_simp; done) | (go_simp; rfl)); intro gb130 hg w81 hbox hb; have n0_ := Aside0.mk (Kd.R_below (kR HO_4) hb); have n1_ := Aside0.mk (Kd.R_below (kR HO_7) hb); have n2_ := Aside0.mk (Kd.R_below (kR HO126) hb); have n3_ := Aside0.mk (blk_below (g := gb105) (o := .cells #[.int .i64 a0_0, .slice (some ad129) l0_1.length c0_1] 37 (0, 0)) (kb BK105) hb); have n4_ := Aside0.mk (below_step (kB1 HB GE105) hb); have n5_ := Aside0.mk (hbox); have n6_ := Aside0.mk ((kg hg (kB1 HB GE105) : w.heap.size ≤ gb130)); have n7_ := Aside0.mk ((kg hg (kB1 HB GE105) : w.heap.size ≤ gb130)); have n8_ := Aside0.mk ((by rw [hg]; exact Nat.ne_of_lt (blk_lt (g := gb105) (o := .cells #[.int .i64 a0_0, .slice (some ad129) l0_1.length c0_1] 37 (0, 0)) (kb BK105)) : gb105 ≠ gb130)); have n9_ := Aside0.mk ((by rw [hg]; exact Nat.ne_of_gt (blk_lt (g := gb105) (o := .cells #[.int .i64 a0_0, .slice (some ad129) l0_1.length c0_1] 37 (0, 0)) (kb BK105)) : gb130 ≠ gb105)); clear HO_4; clear HO_7; clear HO126; clear BK105; clear HB; have HO_4 := n0_; have HO_7 := n1_; have HO126 := n2_; have BK105 := n3_; have HB := n4_; have BK130 := n5_; have GW130 := n6_; have GE130 := n7_; have NB105_130 := n8_; have NB130_105 := n9_; clear n0_ n1_ n2_ n3_ n4_ n5_ n6_ n7_ n8_ n9_; clear hb hbox hg; have hnb82 := NB130_105.out; have hnc82 := NB105_130.out; have hcz83 := blk8 (w := w81) BK130.out) | ((with_reducible refine gate_callee (f := 41) rfl ?_); refine goesL_ (some 85) rfl rfl Tryd.func41 (by kernel_rfl) rfl #[.agg #[.int .u8 ((rd_T65 l0_1 (rd x8_2 (ji59))).f0), .int .i64 ((rd_T65 l0_1 (rd x8_2 (ji59))).f1), .int .i64 ((rd_T65 l0_1 (rd x8_2 (ji59))).f2), .float .f64 ((rd_T65 l0_1 (rd x8_2 (ji59))).f3), .slice A129_4 ((rd_T65 l0_1 (rd x8_2 (ji59))).f4).length c129_4, .int .u8 ((rd_T65 l0_1 (rd x8_2 (ji59))).f5), .int .i64 ((rd_T65 l0_1 (rd x8_2 (ji59))).f6), .int .i64 ((rd_T65 l0_1 (rd x8_2 (ji59))).f7)]] rfl (by (try simp only [List.map_toArray, List.map_cons, List.map_nil]); first | done | (simp only [hji59]; rfl) | rfl | (simp only [List.length_drop, List.length_take]; rfl)) ?_; (with_reducible refine (trees_inner.calls ((rd_T65 l0_1 (rd x8_2 (ji59))).f0) ((rd_T65 l0_1 (rd x8_2 (ji59))).f1) ((rd_T65 l0_1 (rd x8_2 (ji59))).f2) ((rd_T65 l0_1 (rd x8_2 (ji59))).f3) _ _ ((rd_T65 l0_1 (rd x8_2 (ji59))).f4) ((rd_T65 l0_1 (rd x8_2 (ji59))).f5) ((rd_T65 l0_1 (rd x8_2 (ji59))).f6) ((rd_T65 l0_1 (rd x8_2 (ji59))).f7) true _ ?side1 ?side2 A72.out).mono ?_); (case side1 => exact Kd.C_below HR129_4.out (kB2 HB GE105 GE130)); (case side2 => exact HC129_4.out); rintro e w84 ⟨rfl, hb⟩; refine ⟨_, rfl, ?_⟩; have n0_ := Aside0.mk (Kd.R_below (by (with_reducible repeat (first | apply Kd.R_alloc | apply Kd.R_drewN | apply Kd.R_drew)); exact (Kd.R_mono (Kd.R_far (p := ⟨gb130, 7, none⟩) (Kd.R_far (p := ⟨gb130, 6, none⟩) (Kd.R_far (p := ⟨gb130, 5, none⟩) (Kd.R_far (p := ⟨gb130, 4, none⟩) (Kd.R_far (p := ⟨gb130, 3, none⟩) (Kd.R_far (p := ⟨gb130, 2, none⟩) (Kd.R_far (p := ⟨gb130, 1, none⟩) (Kd.R_far (p := ⟨gb130, 0, none⟩) (Kd.R_types HO_4.out BK130.out (by decide)) (fun _ hk => hk.2) (.int .u8 ((rd_T65 l0_1 (rd x8_2 (ji59))).f0))) (fun _ hk => hk.2) (.int .i64 ((rd_T65 l0_1 (rd x8_2 (ji59))).f1))) (fun _ hk => hk.2) (.int .i64 ((rd_T65 l0_1 (rd x8_2 (ji59))).f2))) (fun _ hk => hk.2) (.float .f64 ((rd_T65 l0_1 (rd x8_2 (ji59))).f3))) (fun _ hk => hk.2) (.slice A129_4 ((rd_T65 l0_1 (rd x8_2 (ji59))).f4).length c129_4)) (fun _ hk => hk.2) (.int .u8 ((rd_T65 l0_1 (rd x8_2 (ji59))).f5))) (fun _ hk => hk.2) (.int .i64 ((rd_T65 l0_1 (rd x8_2 (ji59))).f6))) (fun _ hk => hk.2) (.int .i64 ((rd_T65 l0_1 (rd x8_2 (ji59))).f7))) (fun _ h_ => h_.1))) hb); have n1_ := Aside0.mk (Kd.R_below (by (with_reducible repeat (first | apply Kd.R_alloc | apply Kd.R_drewN | apply Kd.R_drew)); exact (Kd.R_mono (Kd.R_far (p := ⟨gb130, 7, none⟩) (Kd.R_far (p := ⟨gb130, 6, none⟩) (Kd.R_far (p := ⟨gb130, 5, none⟩) (Kd.R_far (p := ⟨gb130, 4, none⟩) (Kd.R_far (p := ⟨gb130, 3, none⟩) (Kd.R_far (p := ⟨gb130, 2, none⟩) (Kd.R_far (p := ⟨gb130, 1, none⟩) (Kd.R_far (p := ⟨gb130, 0, none⟩) (Kd.R_types HO_7.out BK130.out (by decide)) (fun _ hk => hk.2) (.int .u8 ((rd_T65 l0_1 (rd x8_2 (ji59))).f0))) (fun _ hk => hk.2) (.int .i64 ((rd_T65 l0_1 (rd x8_2 (ji59))).f1))) (fun _ hk => hk.2) (.int .i64 ((rd_T65 l0_1 (rd x8_2 (ji59))).f2))) (fun _ hk => hk.2) (.float .f64 ((rd_T65 l0_1 (rd x8_2 (ji59))).f3))) (fun _ hk => hk.2) (.slice A129_4 ((rd_T65 l0_1 (rd x8_2 (ji59))).f4).length c129_4)) (fun _ hk => hk.2) (.int .u8 ((rd_T65 l0_1 (rd x8_2 (ji59))).f5))) (fun _ hk => hk.2) (.int .i64 ((rd_T65 l0_1 (rd x8_2 (ji59))).f6))) (fun _ hk => hk.2) (.int .i64 ((rd_T65 l0_1 (rd x8_2 (ji59))).f7))) (fun _ h_ => h_.1))) hb); have n2_ := Aside0.mk (Kd.R_below (by (with_reducible repeat (first | apply Kd.R_alloc | apply Kd.R_drewN | apply Kd.R_drew)); exact (Kd.R_mono (Kd.R_far (p := ⟨gb130, 7, none⟩) (Kd.R_far (p := ⟨gb130, 6, none⟩) (Kd.R_far (p := ⟨gb130, 5, none⟩) (Kd.R_far (p := ⟨gb130, 4, none⟩) (Kd.R_far (p := ⟨gb130, 3, none⟩) (Kd.R_far (p := ⟨gb130, 2, none⟩) (Kd.R_far (p := ⟨gb130, 1, none⟩) (Kd.R_far (p := ⟨gb130, 0, none⟩) (Kd.R_types HO126.out BK130.out (by decide)) (fun _ hk => hk.2) (.int .u8 ((rd_T65 l0_1 (rd x8_2 (ji59))).f0))) (fun _ hk => hk.2) (.int .i64 ((rd_T65 l0_1 (rd x8_2 (ji59))).f1))) (fun _ hk => hk.2) (.int .i64 ((rd_T65 l0_1 (rd x8_2 (ji59))).f2))) (fun _ hk => hk.2) (.float .f64 ((rd_T65 l0_1 (rd x8_2 (ji59))).f3))) (fun _ hk => hk.2) (.slice A129_4 ((rd_T65 l0_1 (rd x8_2 (ji59))).f4).length c129_4)) (fun _ hk => hk.2) (.int .u8 ((rd_T65 l0_1 (rd x8_2 (ji59))).f5))) (fun _ hk => hk.2) (.int .i64 ((rd_T65 l0_1 (rd x8_2 (ji59))).f6))) (fun _ hk => hk.2) (.int .i64 ((rd_T65 l0_1 (rd x8_2 (ji59))).f7))) (fun _ h_ => h_.1))) hb); have n3_ := Aside0.mk (blk_below (g := gb105) (o := .cells #[.int .i64 a0_0, .slice (some ad129) l0_1.length c0_1] 37 (0, 0)) (by (with_reducible repeat (first | refine blk_drewN ?_ _ | refine blk_drew ?_ | refine blk_alloc ?_ _)); refine blk_far ?_ NB105_130.out _; (with_reducible repeat (first | refine blk_drewN ?_ _ | refine blk_drew ?_ | refine blk_alloc ?_ _)); refine blk_far ?_ NB105_130.out _; (with_reducible repeat (first | refine blk_drewN ?_ _ | refine blk_drew ?_ | refine blk_alloc ?_ _)); refine blk_far ?_ NB105_130.out _; (with_reducible repeat (first | refine blk_drewN ?_ _ | refine blk_drew ?_ | refine blk_alloc ?_ _)); refine blk_far ?_ NB105_130.out _; (with_reducible repeat (first | refine blk_drewN ?_ _ | refine blk_drew ?_ | refine blk_alloc ?_ _)); refine blk_far ?_ NB105_130.out _; (with_reducible repeat (first | refine blk_drewN ?_ _ | refine blk_drew ?_ | refine blk_alloc ?_ _)); refine blk_far ?_ NB105_130.out _; (with_reducible repeat (first | refine blk_drewN ?_ _ | refine blk_drew ?_ | refine blk_alloc ?_ _)); refine blk_far ?_ NB105_130.out _; (with_reducible repeat (first | refine blk_drewN ?_ _ | refine blk_drew ?_ | refine blk_alloc ?_ _)); refine blk_far ?_ NB105_130.out _; (with_reducible repeat (first | refine blk_drewN ?_ _ | refine blk_drew ?_ | refine blk_alloc ?_ _)); exact BK105.out) hb); have n4_ := Aside0.mk (blk_below (g := gb130) (o := .cells #[.int .u8 ((rd_T65 l0_1 (rd x8_2 (ji59))).f0), .int .i64 ((rd_T65 l0_1 (rd x8_2 (ji59))).f1), .int .i64 ((rd_T65 l0_1 (rd x8_2 (ji59))).f2), .float .f64 ((rd_T65 l0_1 (rd x8_2 (ji59))).f3), .slice A129_4 ((rd_T65 l0_1 (rd x8_2 (ji59))).f4).length c129_4, .int .u8 ((rd_T65 l0_1 (rd x8_2 (ji59))).f5), .int .i64 ((rd_T65 l0_1 (rd x8_2 (ji59))).f6), .int .i64 ((rd_T65 l0_1 (rd x8_2 (ji59))).f7)] 65 (0, 0)) (by (with_reducible repeat (first | refine blk_drewN ?_ _ | refine blk_drew ?_ | refine blk_alloc ?_ _)); refine blk_put (cs := #[.int .u8 ((rd_T65 l0_1 (rd x8_2 (ji59))).f0), .int .i64 ((rd_T65 l0_1 (rd x8_2 (ji59))).f1), .int .i64 ((rd_T65 l0_1 (rd x8_2 (ji59))).f2), .float .f64 ((rd_T65 l0_1 (rd x8_2 (ji59))).f3), .slice A129_4 ((rd_T65 l0_1 (rd x8_2 (ji59))).f4).length c129_4, .int .u8 ((rd_T65 l0_1 (rd x8_2 (ji59))).f5), .int .i64 ((rd_T65 l0_1 (rd x8_2 (ji59))).f6), .int .i64 0]) ?_ 7 _ rfl; (with_reducible repeat (first | refine blk_drewN ?_ _ | refine blk_drew ?_ | refine blk_alloc ?_ _)); refine blk_put (cs := #[.int .u8 ((rd_T65 l0_1 (rd x8_2 (ji59))).f0), .int .i64 ((rd_T65 l0_1 (rd x8_2 (ji59))).f1), .int .i64 ((rd_T65 l0_1 (rd x8_2 (ji59))).f2), .float .f64 ((rd_T65 l0_1 (rd x8_2 (ji59))).f3), .slice A129_4 ((rd_T65 l0_1 (rd x8_2 (ji59))).f4).length c129_4, .int .u8 ((rd_T65 l0_1 (rd x8_2 (ji59))).f5), .int .i64 0, .int .i64 0]) ?_ 6 _ rfl; (with_reducible repeat (first | refine blk_drewN ?_ _ | refine blk_drew ?_ | refine blk_alloc ?_ _)); refine blk_put (cs := #[.int .u8 ((rd_T65 l0_1 (rd x8_2 (ji59))).f0), .int .i64 ((rd_T65 l0_1 (rd x8_2 (ji59))).f1), .int .i64 ((rd_T65 l0_1 (rd x8_2 (ji59))).f2), .float .f64 ((rd_T65 l0_1 (rd x8_2 (ji59))).f3), .slice A129_4 ((rd_T65 l0_1 (rd x8_2 (ji59))).f4).length c129_4, .int .u8 0, .int .i64 0, .int .i64 0]) ?_ 5 _ rfl; (with_reducible repeat (first | refine blk_drewN ?_ _ | refine blk_drew ?_ | refine blk_alloc ?_ _)); refine blk_put (cs := #[.int .u8 ((rd_T65 l0_1 (rd x8_2 (ji59))).f0), .int .i64 ((rd_T65 l0_1 (rd x8_2 (ji59))).f1), .int .i64 ((rd_T65 l0_1 (rd x8_2 (ji59))).f2), .float .f64 ((rd_T65 l0_1 (rd x8_2 (ji59))).f3), .slice none 0 0, .int .u8 0, .int .i64 0, .int .i64 0]) ?_ 4 _ rfl; (with_reducible repeat (first | refine blk_drewN ?_ _ | refine blk_drew ?_ | refine blk_alloc ?_ _)); refine blk_put (cs := #[.int .u8 ((rd_T65 l0_1 (rd x8_2 (ji59))).f0), .int .i64 ((rd_T65 l0_1 (rd x8_2 (ji59))).f1), .int .i64 ((rd_T65 l0_1 (rd x8_2 (ji59))).f2), .float .f64 0, .slice none 0 0, .int .u8 0, .int .i64 0, .int .i64 0]) ?_ 3 _ rfl; (with_reducible repeat (first | refine blk_drewN ?_ _ | refine blk_drew ?_ | refine blk_alloc ?_ _)); refine blk_put (cs := #[.int .u8 ((rd_T65 l0_1 (rd x8_2 (ji59))).f0), .int .i64 ((rd_T65 l0_1 (rd x8_2 (ji59))).f1), .int .i64 0, .float .f64 0, .slice none 0 0, .int .u8 0, .int .i64 0, .int .i64 0]) ?_ 2 _ rfl; (with_reducible repeat (first | refine blk_drewN ?_ _ | refine blk_drew ?_ | refine blk_alloc ?_ _)); refine blk_put (cs := #[.int .u8 ((rd_T65 l0_1 (rd x8_2 (ji59))).f0), .int .i64 0, .int .i64 0, .float .f64 0, .slice none 0 0, .int .u8 0, .int .i64 0, .int .i64 0]) ?_ 1 _ rfl; (with_reducible repeat (first | refine blk_drewN ?_ _ | refine blk_drew ?_ | refine blk_alloc ?_ _)); refine blk_put (cs := #[.int .u8 0, .int .i64 0, .int .i64 0, .float .f64 0, .slice none 0 0, .int .u8 0, .int .i64 0, .int .i64 0]) ?_ 0 _ rfl; (with_reducible repeat (first | refine blk_drewN ?_ _ | refine blk_drew ?_ | refine blk_alloc ?_ _)); exact BK130.out) hb); have n5_ := Aside0.mk (below_step (kB2 HB GE105 GE130) hb); clear HO_4; clear HO_7; clear HO126; clear BK105; clear BK130; clear HB; have HO_4 := n0_; have HO_7 := n1_; have HO126 := n2_; have BK105 := n3_; have BK130 := n4_; have HB := n5_; clear n0_ n1_ n2_ n3_ n4_ n5_; (try clear hb); (try clear hb2); (try clear hk); (try clear hi); have hcz85 := blk8 (w := w84) BK130.out) | ((with_reducible refine gate_dst (N := 91) rfl ?_); refine Kd.R_lit (Kd.int .i64) _ 3 ?hg (N := 91) ?hd (xs := ([(rd_T65 l0_1 (rd x8_2 (ji59))).f6, (rd_T65 l0_1 (rd x8_2 (ji59))).f7] : List Int)) (inner := [.int .i64 ((rd_T65 l0_1 (rd x8_2 (ji59))).f6), .int .i64 ((rd_T65 l0_1 (rd x8_2 (ji59))).f7)]) (ok := fun _ => True) (okp := fun _ => True) ?hr ?hp (fun _ hk => hk) trivial (Below.refl _ _) (Nat.le_refl _) (by simp) ?_; (case hd => rfl); (case hg => rfl); (case hr => first | (go_simp; done) | (go_simp; rfl)); (case hp => exact (Reps.one (show Kd.M (Kd.int .i64) _ _ _ ((rd_T65 l0_1 (rd x8_2 (ji59))).f6) [.int .i64 ((rd_T65 l0_1 (rd x8_2 (ji59))).f6)] from rfl) (Reps.one (show Kd.M (Kd.int .i64) _ _ _ ((rd_T65 l0_1 (rd x8_2 (ji59))).f7) [.int .i64 ((rd_T65 l0_1 (rd x8_2 (ji59))).f7)] from rfl) (Reps.none _ _)))); intro v133 w86 ho87 hb hg_ hnew_; clear hg_ hnew_; (first | rw [← Ny132.out] at ho87 | (simp only [Int.reduceToNat] at ho87; rw [← Ny132.out] at ho87)); have n0_ := Aside0.mk (Kd.R_elder' (kR HO_4) (Kd.R_base ho87) hb); have n1_ := Aside0.mk (Kd.R_below (kR HO_7) hb); have n2_ := Aside0.mk (Kd.R_elder' (kR HO126) (Kd.R_base ho87) hb); have n3_ := Aside0.mk (Kd.R_lower (Kd.R_new' (Kd.R_new' ho87 (Kd.R_lt (kR HO_4))) (Kd.R_lt (kR HO126))) (below_size (kB2 HB GE105 GE130))); have n4_ := Aside0.mk (blk_below (g := gb105) (o := .cells #[.int .i64 a0_0, .slice (some ad129) l0_1.length c0_1] 37 (0, 0)) (kb BK105) hb); have n5_ := Aside0.mk (blk_below (g := gb130) (o := .cells #[.int .u8 ((rd_T65 l0_1 (rd x8_2 (ji59))).f0), .int .i64 ((rd_T65 l0_1 (rd x8_2 (ji59))).f1), .int .i64 ((rd_T65 l0_1 (rd x8_2 (ji59))).f2), .float .f64 ((rd_T65 l0_1 (rd x8_2 (ji59))).f3), .slice A129_4 ((rd_T65 l0_1 (rd x8_2 (ji59))).f4).length c129_4, .int .u8 ((rd_T65 l0_1 (rd x8_2 (ji59))).f5), .int .i64 ((rd_T65 l0_1 (rd x8_2 (ji59))).f6), .int .i64 ((rd_T65 l0_1 (rd x8_2 (ji59))).f7)] 65 (0, 0)) (kb BK130) hb); have n6_ := Aside0.mk (below_step (kB2 HB GE105 GE130) hb); clear HO_4; clear HO_7; clear HO126; clear BK105; clear BK130; clear HB; have HO_4 := n0_; have HO_7 := n1_; have HO126 := n2_; have HO134 := n3_; have BK105 := n4_; have BK130 := n5_; have HB := n6_; clear n0_ n1_ n2_ n3_ n4_ n5_ n6_; clear hb ho87; obtain ⟨Ao89, co89, eo89⟩ := Kd.R_slice HO134.out; subst eo89) | ((with_reducible refine gate_builtin (b := .append) (xs := #[.tmp 86, .tmp 91]) rfl ?_); at_builtin; refine Kd.R_append_rows (Kd.int .i64) (w0 := w) w.heap.size rfl (.tmp 86) (.tmp 91) 56 3 (.int .i64 0) 8 rfl Tryd.underlying56 info3 rfl (by decide) (by omega) (.slice (some ad123) y124.length co75) y124 y132 _ _ _ (fun k_ => some k_ ≠ (v107 : Value).ownBlock ∧ some k_ ≠ (.slice Ao89 y132.length co89 : Value).ownBlock) (fun _ => False) rfl rfl ?aO ?aR (fun _ _ h => h) (fun _ h => h.elim) ?aF ?aB ?aS ?aL ?_; (case aR => repeat (first | exact (Kd.R_reads' HO134.out).2.2 | (with_reducible refine Kd.C_alloc ?_ _) | (with_reducible refine Kd.C_drewN ?_ _) | (with_reducible refine Kd.C_drew ?_))); (case aB => exact (kB2 HB GE105 GE130)); (case aF => exact (fun k_ hk => ⟨Kd.fresh' (Kd.R_lt (kR HO_4)) k_ hk, Kd.fresh' (Kd.R_lt (kR HO134)) k_ hk⟩)); (case aO => exact (kR HO126)); (case aS => exact (below_size (kB2 HB GE105 GE130))); (case aL => have := LMc74.out; omega); intro v136 w88 ho hb hg hat; rw [← Ny135.out] at ho; have n0_ := Aside0.mk (Kd.R_after (ok := (fun k_ => some k_ ≠ (.slice Ao89 y132.length co89 : Value).ownBlock)) (by (with_reducible repeat (first | apply Kd.R_alloc | apply Kd.R_drewN | apply Kd.R_drew)); exact Kd.R_mono HO_4.out (fun _ hk => ⟨hk.2, hk.1⟩)) hg hat); have n1_ := Aside0.mk (Kd.R_over' (kR HO_7) (Kd.R_typed (kR HO126)) (by decide) hg); have n2_ := Aside0.mk (blk_grown (g := gb105) (o := .cells #[.int .i64 a0_0, .slice (some ad129) l0_1.length c0_1] 37 (0, 0)) (kb BK105) hg (Kd.R_ne HO126.out BK105.out (by decide))); have n3_ := Aside0.mk (blk_grown (g := gb130) (o := .cells #[.int .u8 ((rd_T65 l0_1 (rd x8_2 (ji59))).f0), .int .i64 ((rd_T65 l0_1 (rd x8_2 (ji59))).f1), .int .i64 ((rd_T65 l0_1 (rd x8_2 (ji59))).f2), .float .f64 ((rd_T65 l0_1 (rd x8_2 (ji59))).f3), .slice A129_4 ((rd_T65 l0_1 (rd x8_2 (ji59))).f4).length c129_4, .int .u8 ((rd_T65 l0_1 (rd x8_2 (ji59))).f5), .int .i64 ((rd_T65 l0_1 (rd x8_2 (ji59))).f6), .int .i64 ((rd_T65 l0_1 (rd x8_2 (ji59))).f7)] 65 (0, 0)) (kb BK130) hg (Kd.R_ne HO126.out BK130.out (by decide))); have n4_ := Aside0.mk (Kd.R_after (ok := (fun k_ => some k_ ≠ (v107 : Value).ownBlock)) (by (with_reducible repeat (first | apply Kd.R_alloc | apply Kd.R_drewN | apply Kd.R_drew)); exact Kd.R_mono HO134.out (fun _ hk => ⟨hk.1.2, hk.2⟩)) hg hat); have n5_ := Aside0.mk (hb); have n6_ := Aside0.mk (ho); clear HO_4; clear HO_7; clear BK105; clear BK130; clear HO134; clear HB; clear HO126; have HO_4 := n0_; have HO_7 := n1_; have BK105 := n2_; have BK130 := n3_; have HO134 := n4_; have HB := n5_; have HO137 := n6_; clear n0_ n1_ n2_ n3_ n4_ n5_ n6_; clear ho hb hg hat))
                     go_roundg k2
                     case measure => have := HK1.out; have := HK2.out; omega
                     case rel => exact ⟨(y128), (y135), H', ⟨by have := HK1.out; have := HK2.out; omega⟩, ⟨by (with_reducible repeat (first | apply Kd.R_alloc | apply Kd.R_drewN | apply Kd.R_drew)); exact Kd.R_mono HO_4.out (fun _ hk => hk.2)⟩, ⟨kR HO_7⟩, ⟨by (with_reducible repeat (first | apply Kd.R_alloc | apply Kd.R_drewN | apply Kd.R_drew)); exact Kd.R_mono HO137.out (fun _ hk => hk.1)⟩, ⟨kb BK105⟩, ⟨kB2 HB GE105 GE130⟩⟩
                    ·rw [if_neg c74] at H
                     exact absurd H (by simp)
                   ·replace c73 := Bool.eq_false_iff.mpr c73
                    subst c73
                    have H1 : (trees_Shape.l1 k2 x4_1 y128 y124 a0_0 l0_1) = some (r1, r2) := by rw [if_neg (show ¬ (false = true) by decide)] at H; exact H
                    clear H
                    have H := H1
                    clear H1
                    have H' := Aside0.mk H
                    clear H
                    obtain ⟨Ao90, co90, eo90⟩ := Kd.R_slice HO_8.out
                    subst eo90
                    have p123 : 0 ≤ ((ji59) : Int) := of_decide_eq_true ka
                    have q123 : (ji59) < (x8_2.length : Int) := of_decide_eq_true ka
                    obtain ⟨ad123, e123, hx123_0⟩ := Kd.at_int (Kd.R_reads' HO_8.out).2.2 (ji59) p123 q123
                    cases e123
                    replace p123 := eq_true p123
                    replace q123 := eq_true q123
                    have q91 : ((ji59) : Int) ≤ ((x8_2.length : Int) : Int) := of_decide_eq_true ka
                    obtain ⟨i091, hi091, _, hsz91, _⟩ := info_parts info3
                    have hcut91 := cut_to (P := Tryd.prog) 56 3 .i64 Tryd.underlying56 hi091 (some ad123) x8_2.length co90 (ji59) (of_decide_eq_true ka) q91 (Kd.R_reads' HO_8.out).2.1
                    have hr91 := Kd.R_take (m := ((ji59) : Int).toNat) HO_8.out (by omega)
                    have hy91 : y124.length = ((ji59) : Int).toNat := (by rw [Ny124.out, List.length_take]; omega)
                    rw [← Ny124.out] at hr91
                    rw [← hy91] at hr91 hcut91
                    clear hy91 hi091 hsz91 HO_8
                    have HO126 := Aside0.mk hr91
                    clear hr91
                    replace q91 := eq_true q91
                    obtain ⟨Ao92, co92, eo92⟩ := Kd.R_slice HO_7.out
                    subst eo92
                    have p127 : 0 ≤ ((rd x8_2 (ji59)) : Int) := of_decide_eq_true ka
                    have q127 : (rd x8_2 (ji59)) < (x7_2.length : Int) := of_decide_eq_true ka
                    obtain ⟨ad127, e127, hx127_0⟩ := Kd.at_bool (Kd.R_reads' HO_7.out).2.2 (rd x8_2 (ji59)) p127 q127
                    (try rw [← Nbq65.out] at hx127_0)
                    cases e127
                    replace p127 := eq_true p127
                    replace q127 := eq_true q127
                    have p70 : 0 ≤ ((rd x8_2 (ji59)) : Int) := of_decide_eq_true ka
                    have q70 : ((rd x8_2 (ji59)) : Int) < ((x7_2.length : Int) : Int) := of_decide_eq_true ka
                    obtain ⟨go70, co70, eo70, gb70, gl70, cl70, HG70⟩ := Kd.R_form HO_7.out (by omega)
                    (first | cases eo70 | (injection eo70 with ea_ en_ ec_; (first | subst ea_ | (injection ea_ with ea_; subst ea_)); subst ec_; clear en_))
                    have GB70 := Aside0.mk gb70
                    have GG70 := Aside0.mk HG70
                    clear gb70 gl70 HG70
                    (first | simp only [add_plain] at hx127_0 | skip)
                    obtain ⟨hx70_0, hf70_0⟩ := Kd.R_celln false HO_7.out ((rd x8_2 (ji59)) : Int) p70 q70
                    replace p70 := eq_true p70
                    replace q70 := eq_true q70
                    have HP93 := Kd.R_putg HO_7.out ((rd x8_2 (ji59)) : Int) true
                    go_wp2_with (first | ((with_reducible refine gate_store (t := 4) (p := 78) rfl ?_); refine store_event (t := 4) (p := 78) (v := ?vo_w94) (w1 := (wr.setCell ⟨go70, ((rd x8_2 (ji59)) : Int).toNat, none⟩ (.bool true))) ?hg ?ho ?hn ?hr ?_; (case ho => rfl); (case hg => rfl); (case hn => rfl); (case hr => first | (go_simp; done) | (go_simp; rfl)); intro w94 hw; have hg : wr.grownBy w94 (some go70) := (by rw [hw]; exact HP93.2); have hp_ : Kd.R Kd.bool 4 w94 w.heap.size (fun _ => True) (.slice (some ⟨go70, 0, none⟩) x7_2.length co92) y128 := (by rw [hw, Ny128.out]; exact HP93.1); clear HP93; have n0_ := Aside0.mk (Kd.R_over' (v := (.slice (some ⟨go70, 0, none⟩) x7_2.length co92)) (kR HO_4) (Kd.R_typed HO_7.out) (by decide) hg); have n1_ := Aside0.mk (hp_); have n2_ := Aside0.mk (Kd.R_over' (v := (.slice (some ⟨go70, 0, none⟩) x7_2.length co92)) (kR HO126) (Kd.R_typed HO_7.out) (by decide) hg); have n3_ := Aside0.mk (blk_grown (g := gb105) (o := .cells #[.int .i64 a0_0, .slice A0_1 l0_1.length c0_1] 37 (0, 0)) (kb BK105) hg (Kd.R_ne HO_7.out BK105.out (by decide))); have n4_ := Aside0.mk ((by rw [hw]; exact below_set (HB.out) GB70.out : Below w.heap.size w w94)); clear HO_4; clear HO_7; clear HO126; clear BK105; clear HB; have HO_4 := n0_; have HO_7 := n1_; have HO126 := n2_; have BK105 := n3_; have HB := n4_; clear n0_ n1_ n2_ n3_ n4_; clear hg hw hp_; have hcz95 := blk2 (w := w94) BK105.out; have p129 : 0 ≤ ((rd x8_2 (ji59)) : Int) := of_decide_eq_true ka; have q129 : (rd x8_2 (ji59)) < (l0_1.length : Int) := of_decide_eq_true ka; obtain ⟨ad129, A129_4, c129_4, e129, hx129_0, hx129_1, hx129_2, hx129_3, hx129_4, hx129_5, hx129_6, hx129_7, hl129_4, hi129_4⟩ := at_T65 HR0_1.out (rd x8_2 (ji59)) p129 q129; cases e129; replace hx129_0 := (HB.out.cell (World.block_lt_of_cell? w _ hx129_0)).trans hx129_0; replace hx129_1 := (HB.out.cell (World.block_lt_of_cell? w _ hx129_1)).trans hx129_1; replace hx129_2 := (HB.out.cell (World.block_lt_of_cell? w _ hx129_2)).trans hx129_2; replace hx129_3 := (HB.out.cell (World.block_lt_of_cell? w _ hx129_3)).trans hx129_3; replace hx129_4 := (HB.out.cell (World.block_lt_of_cell? w _ hx129_4)).trans hx129_4; replace hx129_5 := (HB.out.cell (World.block_lt_of_cell? w _ hx129_5)).trans hx129_5; replace hx129_6 := (HB.out.cell (World.block_lt_of_cell? w _ hx129_6)).trans hx129_6; replace hx129_7 := (HB.out.cell (World.block_lt_of_cell? w _ hx129_7)).trans hx129_7; have HR129_4 := Aside0.mk hi129_4; have HC129_4 := Aside0.mk hl129_4; clear hi129_4 hl129_4; replace p129 := eq_true p129; replace q129 := eq_true q129) | ((with_reducible refine gate_dst (N := 10) rfl ?_); refine box_event ?hg (N := 10) ?hd (cs := #[.int .u8 0, .int .i64 0, .int .i64 0, .float .f64 0, .slice none 0 0, .int .u8 0, .int .i64 0, .int .i64 0]) (t := 65) ?hr ?_; (case hd => rfl); (case hg => rfl); (case hr => first | (go_simp; done) | (go_simp; rfl)); intro gb130 hg w96 hbox hb; have n0_ := Aside0.mk (Kd.R_below (kR HO_4) hb); have n1_ := Aside0.mk (Kd.R_below (kR HO_7) hb); have n2_ := Aside0.mk (Kd.R_below (kR HO126) hb); have n3_ := Aside0.mk (blk_below (g := gb105) (o := .cells #[.int .i64 a0_0, .slice (some ad129) l0_1.length c0_1] 37 (0, 0)) (kb BK105) hb); have n4_ := Aside0.mk (below_step (kB1 HB GE105) hb); have n5_ := Aside0.mk (hbox); have n6_ := Aside0.mk ((kg hg (kB1 HB GE105) : w.heap.size ≤ gb130)); have n7_ := Aside0.mk ((kg hg (kB1 HB GE105) : w.heap.size ≤ gb130)); have n8_ := Aside0.mk ((by rw [hg]; exact Nat.ne_of_lt (blk_lt (g := gb105) (o := .cells #[.int .i64 a0_0, .slice (some ad129) l0_1.length c0_1] 37 (0, 0)) (kb BK105)) : gb105 ≠ gb130)); have n9_ := Aside0.mk ((by rw [hg]; exact Nat.ne_of_gt (blk_lt (g := gb105) (o := .cells #[.int .i64 a0_0, .slice (some ad129) l0_1.length c0_1] 37 (0, 0)) (kb BK105)) : gb130 ≠ gb105)); clear HO_4; clear HO_7; clear HO126; clear BK105; clear HB; have HO_4 := n0_; have HO_7 := n1_; have HO126 := n2_; have BK105 := n3_; have HB := n4_; have BK130 := n5_; have GW130 := n6_; have GE130 := n7_; have NB105_130 := n8_; have NB130_105 := n9_; clear n0_ n1_ n2_ n3_ n4_ n5_ n6_ n7_ n8_ n9_; clear hb hbox hg; have hnb97 := NB130_105.out; have hnc97 := NB105_130.out; have hcz98 := blk8 (w := w96) BK130.out) | ((with_reducible refine gate_callee (f := 41) rfl ?_); refine goesL_ (some 85) rfl rfl Tryd.func41 (by kernel_rfl) rfl #[.agg #[.int .u8 ((rd_T65 l0_1 (rd x8_2 (ji59))).f0), .int .i64 ((rd_T65 l0_1 (rd x8_2 (ji59))).f1), .int .i64 ((rd_T65 l0_1 (rd x8_2 (ji59))).f2), .float .f64 ((rd_T65 l0_1 (rd x8_2 (ji59))).f3), .slice A129_4 ((rd_T65 l0_1 (rd x8_2 (ji59))).f4).length c129_4, .int .u8 ((rd_T65 l0_1 (rd x8_2 (ji59))).f5), .int .i64 ((rd_T65 l0_1 (rd x8_2 (ji59))).f6), .int .i64 ((rd_T65 l0_1 (rd x8_2 (ji59))).f7)]] rfl (by (try simp only [List.map_toArray, List.map_cons, List.map_nil]); first | done | (simp only [hji59]; rfl) | rfl | (simp only [List.length_drop, List.length_take]; rfl)) ?_; (with_reducible refine (trees_inner.calls ((rd_T65 l0_1 (rd x8_2 (ji59))).f0) ((rd_T65 l0_1 (rd x8_2 (ji59))).f1) ((rd_T65 l0_1 (rd x8_2 (ji59))).f2) ((rd_T65 l0_1 (rd x8_2 (ji59))).f3) _ _ ((rd_T65 l0_1 (rd x8_2 (ji59))).f4) ((rd_T65 l0_1 (rd x8_2 (ji59))).f5) ((rd_T65 l0_1 (rd x8_2 (ji59))).f6) ((rd_T65 l0_1 (rd x8_2 (ji59))).f7) false _ ?side1 ?side2 A72.out).mono ?_); (case side1 => exact Kd.C_below HR129_4.out (kB2 HB GE105 GE130)); (case side2 => exact HC129_4.out); rintro e w99 ⟨rfl, hb⟩; refine ⟨_, rfl, ?_⟩; have n0_ := Aside0.mk (Kd.R_below (by (with_reducible repeat (first | apply Kd.R_alloc | apply Kd.R_drewN | apply Kd.R_drew)); exact (Kd.R_mono (Kd.R_far (p := ⟨gb130, 7, none⟩) (Kd.R_far (p := ⟨gb130, 6, none⟩) (Kd.R_far (p := ⟨gb130, 5, none⟩) (Kd.R_far (p := ⟨gb130, 4, none⟩) (Kd.R_far (p := ⟨gb130, 3, none⟩) (Kd.R_far (p := ⟨gb130, 2, none⟩) (Kd.R_far (p := ⟨gb130, 1, none⟩) (Kd.R_far (p := ⟨gb130, 0, none⟩) (Kd.R_types HO_4.out BK130.out (by decide)) (fun _ hk => hk.2) (.int .u8 ((rd_T65 l0_1 (rd x8_2 (ji59))).f0))) (fun _ hk => hk.2) (.int .i64 ((rd_T65 l0_1 (rd x8_2 (ji59))).f1))) (fun _ hk => hk.2) (.int .i64 ((rd_T65 l0_1 (rd x8_2 (ji59))).f2))) (fun _ hk => hk.2) (.float .f64 ((rd_T65 l0_1 (rd x8_2 (ji59))).f3))) (fun _ hk => hk.2) (.slice A129_4 ((rd_T65 l0_1 (rd x8_2 (ji59))).f4).length c129_4)) (fun _ hk => hk.2) (.int .u8 ((rd_T65 l0_1 (rd x8_2 (ji59))).f5))) (fun _ hk => hk.2) (.int .i64 ((rd_T65 l0_1 (rd x8_2 (ji59))).f6))) (fun _ hk => hk.2) (.int .i64 ((rd_T65 l0_1 (rd x8_2 (ji59))).f7))) (fun _ h_ => h_.1))) hb); have n1_ := Aside0.mk (Kd.R_below (by (with_reducible repeat (first | apply Kd.R_alloc | apply Kd.R_drewN | apply Kd.R_drew)); exact (Kd.R_mono (Kd.R_far (p := ⟨gb130, 7, none⟩) (Kd.R_far (p := ⟨gb130, 6, none⟩) (Kd.R_far (p := ⟨gb130, 5, none⟩) (Kd.R_far (p := ⟨gb130, 4, none⟩) (Kd.R_far (p := ⟨gb130, 3, none⟩) (Kd.R_far (p := ⟨gb130, 2, none⟩) (Kd.R_far (p := ⟨gb130, 1, none⟩) (Kd.R_far (p := ⟨gb130, 0, none⟩) (Kd.R_types HO_7.out BK130.out (by decide)) (fun _ hk => hk.2) (.int .u8 ((rd_T65 l0_1 (rd x8_2 (ji59))).f0))) (fun _ hk => hk.2) (.int .i64 ((rd_T65 l0_1 (rd x8_2 (ji59))).f1))) (fun _ hk => hk.2) (.int .i64 ((rd_T65 l0_1 (rd x8_2 (ji59))).f2))) (fun _ hk => hk.2) (.float .f64 ((rd_T65 l0_1 (rd x8_2 (ji59))).f3))) (fun _ hk => hk.2) (.slice A129_4 ((rd_T65 l0_1 (rd x8_2 (ji59))).f4).length c129_4)) (fun _ hk => hk.2) (.int .u8 ((rd_T65 l0_1 (rd x8_2 (ji59))).f5))) (fun _ hk => hk.2) (.int .i64 ((rd_T65 l0_1 (rd x8_2 (ji59))).f6))) (fun _ hk => hk.2) (.int .i64 ((rd_T65 l0_1 (rd x8_2 (ji59))).f7))) (fun _ h_ => h_.1))) hb); have n2_ := Aside0.mk (Kd.R_below (by (with_reducible repeat (first | apply Kd.R_alloc | apply Kd.R_drewN | apply Kd.R_drew)); exact (Kd.R_mono (Kd.R_far (p := ⟨gb130, 7, none⟩) (Kd.R_far (p := ⟨gb130, 6, none⟩) (Kd.R_far (p := ⟨gb130, 5, none⟩) (Kd.R_far (p := ⟨gb130, 4, none⟩) (Kd.R_far (p := ⟨gb130, 3, none⟩) (Kd.R_far (p := ⟨gb130, 2, none⟩) (Kd.R_far (p := ⟨gb130, 1, none⟩) (Kd.R_far (p := ⟨gb130, 0, none⟩) (Kd.R_types HO126.out BK130.out (by decide)) (fun _ hk => hk.2) (.int .u8 ((rd_T65 l0_1 (rd x8_2 (ji59))).f0))) (fun _ hk => hk.2) (.int .i64 ((rd_T65 l0_1 (rd x8_2 (ji59))).f1))) (fun _ hk => hk.2) (.int .i64 ((rd_T65 l0_1 (rd x8_2 (ji59))).f2))) (fun _ hk => hk.2) (.float .f64 ((rd_T65 l0_1 (rd x8_2 (ji59))).f3))) (fun _ hk => hk.2) (.slice A129_4 ((rd_T65 l0_1 (rd x8_2 (ji59))).f4).length c129_4)) (fun _ hk => hk.2) (.int .u8 ((rd_T65 l0_1 (rd x8_2 (ji59))).f5))) (fun _ hk => hk.2) (.int .i64 ((rd_T65 l0_1 (rd x8_2 (ji59))).f6))) (fun _ hk => hk.2) (.int .i64 ((rd_T65 l0_1 (rd x8_2 (ji59))).f7))) (fun _ h_ => h_.1))) hb); have n3_ := Aside0.mk (blk_below (g := gb105) (o := .cells #[.int .i64 a0_0, .slice (some ad129) l0_1.length c0_1] 37 (0, 0)) (by (with_reducible repeat (first | refine blk_drewN ?_ _ | refine blk_drew ?_ | refine blk_alloc ?_ _)); refine blk_far ?_ NB105_130.out _; (with_reducible repeat (first | refine blk_drewN ?_ _ | refine blk_drew ?_ | refine blk_alloc ?_ _)); refine blk_far ?_ NB105_130.out _; (with_reducible repeat (first | refine blk_drewN ?_ _ | refine blk_drew ?_ | refine blk_alloc ?_ _)); refine blk_far ?_ NB105_130.out _; (with_reducible repeat (first | refine blk_drewN ?_ _ | refine blk_drew ?_ | refine blk_alloc ?_ _)); refine blk_far ?_ NB105_130.out _; (with_reducible repeat (first | refine blk_drewN ?_ _ | refine blk_drew ?_ | refine blk_alloc ?_ _)); refine blk_far ?_ NB105_130.out _; (with_reducible repeat (first | refine blk_drewN ?_ _ | refine blk_drew ?_ | refine blk_alloc ?_ _)); refine blk_far ?_ NB105_130.out _; (with_reducible repeat (first | refine blk_drewN ?_ _ | refine blk_drew ?_ | refine blk_alloc ?_ _)); refine blk_far ?_ NB105_130.out _; (with_reducible repeat (first | refine blk_drewN ?_ _ | refine blk_drew ?_ | refine blk_alloc ?_ _)); refine blk_far ?_ NB105_130.out _; (with_reducible repeat (first | refine blk_drewN ?_ _ | refine blk_drew ?_ | refine blk_alloc ?_ _)); exact BK105.out) hb); have n4_ := Aside0.mk (blk_below (g := gb130) (o := .cells #[.int .u8 ((rd_T65 l0_1 (rd x8_2 (ji59))).f0), .int .i64 ((rd_T65 l0_1 (rd x8_2 (ji59))).f1), .int .i64 ((rd_T65 l0_1 (rd x8_2 (ji59))).f2), .float .f64 ((rd_T65 l0_1 (rd x8_2 (ji59))).f3), .slice A129_4 ((rd_T65 l0_1 (rd x8_2 (ji59))).f4).length c129_4, .int .u8 ((rd_T65 l0_1 (rd x8_2 (ji59))).f5), .int .i64 ((rd_T65 l0_1 (rd x8_2 (ji59))).f6), .int .i64 ((rd_T65 l0_1 (rd x8_2 (ji59))).f7)] 65 (0, 0)) (by (with_reducible repeat (first | refine blk_drewN ?_ _ | refine blk_drew ?_ | refine blk_alloc ?_ _)); refine blk_put (cs := #[.int .u8 ((rd_T65 l0_1 (rd x8_2 (ji59))).f0), .int .i64 ((rd_T65 l0_1 (rd x8_2 (ji59))).f1), .int .i64 ((rd_T65 l0_1 (rd x8_2 (ji59))).f2), .float .f64 ((rd_T65 l0_1 (rd x8_2 (ji59))).f3), .slice A129_4 ((rd_T65 l0_1 (rd x8_2 (ji59))).f4).length c129_4, .int .u8 ((rd_T65 l0_1 (rd x8_2 (ji59))).f5), .int .i64 ((rd_T65 l0_1 (rd x8_2 (ji59))).f6), .int .i64 0]) ?_ 7 _ rfl; (with_reducible repeat (first | refine blk_drewN ?_ _ | refine blk_drew ?_ | refine blk_alloc ?_ _)); refine blk_put (cs := #[.int .u8 ((rd_T65 l0_1 (rd x8_2 (ji59))).f0), .int .i64 ((rd_T65 l0_1 (rd x8_2 (ji59))).f1), .int .i64 ((rd_T65 l0_1 (rd x8_2 (ji59))).f2), .float .f64 ((rd_T65 l0_1 (rd x8_2 (ji59))).f3), .slice A129_4 ((rd_T65 l0_1 (rd x8_2 (ji59))).f4).length c129_4, .int .u8 ((rd_T65 l0_1 (rd x8_2 (ji59))).f5), .int .i64 0, .int .i64 0]) ?_ 6 _ rfl; (with_reducible repeat (first | refine blk_drewN ?_ _ | refine blk_drew ?_ | refine blk_alloc ?_ _)); refine blk_put (cs := #[.int .u8 ((rd_T65 l0_1 (rd x8_2 (ji59))).f0), .int .i64 ((rd_T65 l0_1 (rd x8_2 (ji59))).f1), .int .i64 ((rd_T65 l0_1 (rd x8_2 (ji59))).f2), .float .f64 ((rd_T65 l0_1 (rd x8_2 (ji59))).f3), .slice A129_4 ((rd_T65 l0_1 (rd x8_2 (ji59))).f4).length c129_4, .int .u8 0, .int .i64 0, .int .i64 0]) ?_ 5 _ rfl; (with_reducible repeat (first | refine blk_drewN ?_ _ | refine blk_drew ?_ | refine blk_alloc ?_ _)); refine blk_put (cs := #[.int .u8 ((rd_T65 l0_1 (rd x8_2 (ji59))).f0), .int .i64 ((rd_T65 l0_1 (rd x8_2 (ji59))).f1), .int .i64 ((rd_T65 l0_1 (rd x8_2 (ji59))).f2), .float .f64 ((rd_T65 l0_1 (rd x8_2 (ji59))).f3), .slice none 0 0, .int .u8 0, .int .i64 0, .int .i64 0]) ?_ 4 _ rfl; (with_reducible repeat (first | refine blk_drewN ?_ _ | refine blk_drew ?_ | refine blk_alloc ?_ _)); refine blk_put (cs := #[.int .u8 ((rd_T65 l0_1 (rd x8_2 (ji59))).f0), .int .i64 ((rd_T65 l0_1 (rd x8_2 (ji59))).f1), .int .i64 ((rd_T65 l0_1 (rd x8_2 (ji59))).f2), .float .f64 0, .slice none 0 0, .int .u8 0, .int .i64 0, .int .i64 0]) ?_ 3 _ rfl; (with_reducible repeat (first | refine blk_drewN ?_ _ | refine blk_drew ?_ | refine blk_alloc ?_ _)); refine blk_put (cs := #[.int .u8 ((rd_T65 l0_1 (rd x8_2 (ji59))).f0), .int .i64 ((rd_T65 l0_1 (rd x8_2 (ji59))).f1), .int .i64 0, .float .f64 0, .slice none 0 0, .int .u8 0, .int .i64 0, .int .i64 0]) ?_ 2 _ rfl; (with_reducible repeat (first | refine blk_drewN ?_ _ | refine blk_drew ?_ | refine blk_alloc ?_ _)); refine blk_put (cs := #[.int .u8 ((rd_T65 l0_1 (rd x8_2 (ji59))).f0), .int .i64 0, .int .i64 0, .float .f64 0, .slice none 0 0, .int .u8 0, .int .i64 0, .int .i64 0]) ?_ 1 _ rfl; (with_reducible repeat (first | refine blk_drewN ?_ _ | refine blk_drew ?_ | refine blk_alloc ?_ _)); refine blk_put (cs := #[.int .u8 0, .int .i64 0, .int .i64 0, .float .f64 0, .slice none 0 0, .int .u8 0, .int .i64 0, .int .i64 0]) ?_ 0 _ rfl; (with_reducible repeat (first | refine blk_drewN ?_ _ | refine blk_drew ?_ | refine blk_alloc ?_ _)); exact BK130.out) hb); have n5_ := Aside0.mk (below_step (kB2 HB GE105 GE130) hb); clear HO_4; clear HO_7; clear HO126; clear BK105; clear BK130; clear HB; have HO_4 := n0_; have HO_7 := n1_; have HO126 := n2_; have BK105 := n3_; have BK130 := n4_; have HB := n5_; clear n0_ n1_ n2_ n3_ n4_ n5_; (try clear hb); (try clear hb2); (try clear hk); (try clear hi)))
                    go_roundg k2
                    case measure => have := HK1.out; have := HK2.out; omega
                    case rel => exact ⟨(y128), (y124), H', ⟨by have := HK1.out; have := HK2.out; omega⟩, ⟨kR HO_4⟩, ⟨kR HO_7⟩, ⟨kR HO126⟩, ⟨kb BK105⟩, ⟨kB2 HB GE105 GE130⟩⟩
                  ·rw [if_neg c71] at H
                   exact absurd H (by simp)
                ·rw [if_neg c64] at H
                 exact absurd H (by simp)
               ·rw [if_neg c63] at H
                exact absurd H (by simp)
              ·rw [if_neg c62] at H
               exact absurd H (by simp)
             ·rw [if_neg c61] at H
              exact absurd H (by simp)
            ·rw [if_neg c60] at H
             exact absurd H (by simp)
           ·rw [if_neg c58] at H
            have c58b0 : decide (0 < (x8_2.length : Int)) = false := decide_eq_false c58
            have c58b1 : decide (0 < x8_2.length) = false := decide_eq_false (by omega)
            clear c58
            have H' := Aside0.mk H
            clear H
            obtain ⟨Ao100, co100, eo100⟩ := Kd.R_slice HO_8.out
            subst eo100
            have hcz101 := blk2 (w := wr) BK105.out
            go_wp2
            go_loopg [96] k2 (fun kq v96 w' => ∃ (x96_3 : Int), v96 = .int .i64 x96_3 ∧ Aside0 (trees_Shape.l2 kq x4_1 x7_2 (l0_1.length : Int) x96_3 = some (r1, r2)) ∧ Aside0 (kq ≤ k2) ∧ Aside0 (Kd.R (Kd.int .i64) 3 w' w.heap.size (fun _ => True) v107 x4_1) ∧ Aside0 (Kd.R Kd.bool 4 w' w.heap.size (fun _ => True) v118 x7_2) ∧ Aside0 (w'.heap[gb105]? = some (.cells #[.int .i64 a0_0, (.slice A0_1 l0_1.length c0_1)] 37 (0, 0))) ∧ Aside0 (Below w.heap.size w w'))
            case atStart => exact ⟨(0), kr, H', ⟨Nat.le_refl _⟩, ⟨by (with_reducible repeat (first | apply Kd.R_alloc | apply Kd.R_drewN | apply Kd.R_drew)); exact Kd.R_mono HO_4.out (fun _ hk => trivial)⟩, ⟨kR HO_7⟩, ⟨kb BK105⟩, ⟨kB1 HB GE105⟩⟩
            case round =>
             clear H'
             try clear c1
             try clear p1
             try clear q1
             try clear hx1
             try clear c2
             try clear c2b0
             try clear c2b1
             try clear c2b2
             try clear p2
             try clear q2
             try clear hx2
             try clear hf2
             try clear c4
             try clear c5
             try clear c5b0
             try clear c5b1
             try clear c6
             try clear c6b0
             try clear c6b1
             try clear p6
             try clear q6
             try clear c7
             try clear p7
             try clear q7
             try clear hx7
             try clear hf7
             try clear c8
             try clear c9
             try clear q9
             try clear c10
             try clear p10
             try clear q10
             try clear hx10
             try clear p11
             try clear q11
             try clear hx11
             try clear c12
             try clear c12b0
             try clear p12
             try clear q12
             try clear hx12
             try clear c13
             try clear c13b0
             try clear c14
             try clear c14b0
             try clear c16
             try clear c18
             try clear c19
             try clear c19b0
             try clear c20
             try clear c20b0
             try clear p21
             try clear q21
             try clear hx21
             try clear hf21
             try clear c22
             try clear c22b0
             try clear c23
             try clear c23b0
             try clear p24
             try clear q24
             try clear hx24
             try clear hf24
             try clear c26
             try clear c40
             try clear c41
             try clear c44
             try clear c47
             try clear c51
             try clear c51b0
             try clear c51b1
             try clear c52
             try clear c52b0
             try clear c52b1
             try clear c58
             try clear c58b0
             try clear c58b1
             try clear c60
             try clear c60b0
             try clear c61
             try clear c61b0
             try clear c62
             try clear c62b0
             try clear c62b1
             try clear c63
             try clear c63b0
             try clear c64
             try clear c64b0
             try clear p64
             try clear q65
             try clear c66
             try clear q68
             try clear p70
             try clear q70
             try clear hx70
             try clear hf70
             try clear c71
             try clear c71b0
             try clear c73
             try clear c74
             try clear q76
             try clear c82
             try clear q91
             try clear c97
             try clear hcz101
             try clear hcz11
             try clear hcz27
             try clear hcz28
             try clear hcz30
             try clear hcz32
             try clear hcz36
             try clear hcz41
             try clear hcz42
             try clear hcz44
             try clear hcz48
             try clear hcz49
             try clear hcz4
             try clear hcz53
             try clear hcz80
             try clear hcz83
             try clear hcz85
             try clear hcz8
             try clear hcz95
             try clear hcz98
             try clear hx109_0
             try clear hx109_1
             try clear hx109_2
             try clear hx109_3
             try clear hx109_4
             try clear hx109_5
             try clear hx109_6
             try clear hx109_7
             try clear hx113_0
             try clear hx115_0
             try clear hx123_0
             try clear hx127_0
             try clear hx129_0
             try clear hx129_1
             try clear hx129_2
             try clear hx129_3
             try clear hx129_4
             try clear hx129_5
             try clear hx129_6
             try clear hx129_7
             try clear hx21_0
             try clear hx24_0
             try clear hx70_0
             try clear p109
             try clear p113
             try clear p115
             try clear p123
             try clear p127
             try clear p129
             try clear q109
             try clear q113
             try clear q115
             try clear q123
             try clear q127
             try clear q129
             obtain ⟨x96_3, rfl, HA, HK3, HO_4, HO_7, BK105, HB⟩ := hrel
             cases gk with
             | zero => exact absurd HA.out (by simp [trees_Shape.l2])
             | succ k3 =>
              have H := HA.out
              clear HA
              simp only [trees_Shape.l2] at H
              by_cases c102 : x96_3 < (l0_1.length : Int)
              ·rw [if_pos c102] at H
               have c102b0 : decide (x96_3 < (l0_1.length : Int)) = true := decide_eq_true c102
               clear c102
               obtain ⟨ji103, hji103⟩ : ∃ j_ : Int, (mn x96_3 1) = j_ := ⟨_, rfl⟩
               replace H : (if 0 ≤ x96_3 then (if x96_3 < (x4_1.length : Int) then (if (rd x4_1 x96_3) = (ji103) then (if x96_3 < (x7_2.length : Int) then (if rdOf false x7_2 x96_3 = true then (trees_Shape.l2 k3 x4_1 x7_2 (l0_1.length : Int) (wrap64 (x96_3 + 1))) else (some (70, x96_3))) else (none)) else (some (70, x96_3))) else (none)) else (none)) = some (r1, r2) := by first | (rw [hji103] at H; exact H) | (simp only [hji103] at H ⊢; exact H)
               have hji103_ : (if 1 < x96_3 then 1 else x96_3) = ji103 := hji103
               by_cases c104 : 0 ≤ x96_3
               ·rw [if_pos c104] at H
                have c104b0 : decide (0 ≤ x96_3) = true := decide_eq_true c104
                clear c104
                by_cases c105 : x96_3 < (x4_1.length : Int)
                ·rw [if_pos c105] at H
                 have c105b0 : decide (x96_3 < (x4_1.length : Int)) = true := decide_eq_true c105
                 clear c105
                 by_cases c106 : (rd x4_1 x96_3) = (ji103)
                 ·rw [if_pos c106] at H
                  have c106b0 : ((rd x4_1 x96_3) == (ji103)) = true := beq_iff_eq.mpr c106
                  have c106b1 : ((rd x4_1 x96_3) != (ji103)) = false := bne_eq_false_iff_eq.mpr c106
                  clear c106
                  by_cases c107 : x96_3 < (x7_2.length : Int)
                  ·rw [if_pos c107] at H
                   have c107b0 : decide (x96_3 < (x7_2.length : Int)) = true := decide_eq_true c107
                   clear c107
                   obtain ⟨bq108, hbq108⟩ : ∃ b_ : Bool, b_ = (rdOf false x7_2 x96_3) := ⟨_, rfl⟩
                   replace H : (if bq108 = true then (trees_Shape.l2 k3 x4_1 x7_2 (l0_1.length : Int) (wrap64 (x96_3 + 1))) else (some (70, x96_3))) = some (r1, r2) := by rw [← hbq108] at H; exact H
                   have Nbq108 := Aside0.mk hbq108
                   clear hbq108
                   by_cases c109 : bq108 = true
                   ·subst c109
                    have H1 : (trees_Shape.l2 k3 x4_1 x7_2 (l0_1.length : Int) (wrap64 (x96_3 + 1))) = some (r1, r2) := by rw [if_pos rfl] at H; exact H
                    clear H
                    have H := H1
                    clear H1
                    have H' := Aside0.mk H
                    clear H
                    obtain ⟨Ao110, co110, eo110⟩ := Kd.R_slice HO_4.out
                    subst eo110
                    have p138 : 0 ≤ (x96_3 : Int) := of_decide_eq_true ka
                    have q138 : x96_3 < (x4_1.length : Int) := of_decide_eq_true ka
                    obtain ⟨ad138, e138, hx138_0⟩ := Kd.at_int (Kd.R_reads' HO_4.out).2.2 x96_3 p138 q138
                    cases e138
                    replace p138 := eq_true p138
                    replace q138 := eq_true q138
                    obtain ⟨Ao111, co111, eo111⟩ := Kd.R_slice HO_7.out
                    subst eo111
                    have p139 : 0 ≤ (x96_3 : Int) := of_decide_eq_true ka
                    have q139 : x96_3 < (x7_2.length : Int) := of_decide_eq_true ka
                    obtain ⟨ad139, e139, hx139_0⟩ := Kd.at_bool (Kd.R_reads' HO_7.out).2.2 x96_3 p139 q139
                    (try rw [← Nbq108.out] at hx139_0)
                    cases e139
                    replace p139 := eq_true p139
                    replace q139 := eq_true q139
                    go_wp2
                    go_roundg k3
                    case measure => have := HK1.out; have := HK2.out; have := HK3.out; omega
                    case rel => exact ⟨(wrap64 (x96_3 + 1)), kr, H', ⟨by have := HK1.out; have := HK2.out; have := HK3.out; omega⟩, ⟨kR HO_4⟩, ⟨kR HO_7⟩, ⟨kb BK105⟩, ⟨kB1 HB GE105⟩⟩
                   ·replace c109 := Bool.eq_false_iff.mpr c109
                    subst c109
                    have H1 : (some (70, x96_3)) = some (r1, r2) := by rw [if_neg (show ¬ (false = true) by decide)] at H; exact H
                    clear H
                    have H := H1
                    clear H1
                    simp only [Option.some.injEq, Prod.mk.injEq] at H
                    obtain ⟨rfl, rfl⟩ := H
                    obtain ⟨Ao112, co112, eo112⟩ := Kd.R_slice HO_4.out
                    subst eo112
                    have p138 : 0 ≤ (x96_3 : Int) := of_decide_eq_true ka
                    have q138 : x96_3 < (x4_1.length : Int) := of_decide_eq_true ka
                    obtain ⟨ad138, e138, hx138_0⟩ := Kd.at_int (Kd.R_reads' HO_4.out).2.2 x96_3 p138 q138
                    cases e138
                    replace p138 := eq_true p138
                    replace q138 := eq_true q138
                    obtain ⟨Ao113, co113, eo113⟩ := Kd.R_slice HO_7.out
                    subst eo113
                    have p139 : 0 ≤ (x96_3 : Int) := of_decide_eq_true ka
                    have q139 : x96_3 < (x7_2.length : Int) := of_decide_eq_true ka
                    obtain ⟨ad139, e139, hx139_0⟩ := Kd.at_bool (Kd.R_reads' HO_7.out).2.2 x96_3 p139 q139
                    (try rw [← Nbq108.out] at hx139_0)
                    cases e139
                    replace p139 := eq_true p139
                    replace q139 := eq_true q139
                    go_wp2
                    go_ret2
                    exact ⟨by first | rfl | (simp [errW_none, errW_some] <;> rfl) | (simp only [← hji103]; first | rfl | (simp [errW_none, errW_some] <;> rfl)) | (simp [*, errW_none, errW_some] <;> rfl), kB1 HB GE105⟩
                  ·rw [if_neg c107] at H
                   exact absurd H (by simp)
                 ·rw [if_neg c106] at H
                  have c106b0 : ((rd x4_1 x96_3) == (ji103)) = false := beq_eq_false_iff_ne.mpr c106
                  have c106b1 : ((rd x4_1 x96_3) != (ji103)) = true := bne_iff_ne.mpr c106
                  simp only [Option.some.injEq, Prod.mk.injEq] at H
                  obtain ⟨rfl, rfl⟩ := H
                  obtain ⟨Ao114, co114, eo114⟩ := Kd.R_slice HO_4.out
                  subst eo114
                  have p138 : 0 ≤ (x96_3 : Int) := of_decide_eq_true ka
                  have q138 : x96_3 < (x4_1.length : Int) := of_decide_eq_true ka
                  obtain ⟨ad138, e138, hx138_0⟩ := Kd.at_int (Kd.R_reads' HO_4.out).2.2 x96_3 p138 q138
                  cases e138
                  replace p138 := eq_true p138
                  replace q138 := eq_true q138
                  go_wp2
                  go_ret2
                  exact ⟨by first | rfl | (simp [errW_none, errW_some] <;> rfl) | (simp only [← hji103]; first | rfl | (simp [errW_none, errW_some] <;> rfl)) | (simp [*, errW_none, errW_some] <;> rfl), kB1 HB GE105⟩
                ·rw [if_neg c105] at H
                 exact absurd H (by simp)
               ·rw [if_neg c104] at H
                exact absurd H (by simp)
              ·rw [if_neg c102] at H
               have c102b0 : decide (x96_3 < (l0_1.length : Int)) = false := decide_eq_false c102
               clear c102
               simp only [Option.some.injEq, Prod.mk.injEq] at H
               obtain ⟨rfl, rfl⟩ := H
               go_wp2
               go_ret2
               exact ⟨by first | rfl | (simp [errW_none, errW_some] <;> rfl) | (simp [*, errW_none, errW_some] <;> rfl), kB1 HB GE105⟩
        ·rw [if_neg c52] at H
         exact absurd H (by simp)
       ·rw [if_neg c51] at H
        exact absurd H (by simp)
   ·rw [if_neg c6] at H
    exact absurd H (by simp)
  ·rw [if_neg c5] at H
   exact absurd H (by simp)
end Go.Proofs.YtpeiafamkajedaaDoor.FAll
