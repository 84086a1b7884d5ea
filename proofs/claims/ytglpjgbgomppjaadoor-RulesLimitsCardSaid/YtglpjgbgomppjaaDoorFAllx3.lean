-- written by fprint.sh, a program of ours over the kit's print: not by hand
import Derived.Test.YtglpjgbgomppjaaDoorFAllx0
import Derived.Test.YtglpjgbgomppjaaDoorFAllx1
import Derived.Test.YtglpjgbgomppjaaDoorFAllx2
namespace Go.Proofs.YtglpjgbgomppjaaDoor.FAll
open Go.RowKit Go.Proofs.YtglpjgbgomppjaaDoorW.PrintWords Go.Proofs.YtglpjgbgomppjaaDoorW.PrintLast Go.Proofs.YtglpjgbgomppjaaDoorW.PrintMore
attribute [local go_sem] feq_walk fne_walk flt_walk fle_walk fgt_walk fge_walk fint_walk fstore_walk run_f64bits max2_int min2_int max_two min_two max_three min_three max_four min_four   -- for this text's walks alone
set_option linter.unusedVariables false
set_option linter.unusedSimpArgs false
/-! ### trees_Shape: function 39 -/
mutual
def trees_Shape.l0 : Nat → List Int → List (S40) → Int → Int → Int → List (S40) → Option (Int × Int)
 | 0, _, _, _, _, _, _ => none
 | k + 1, x4, x22, x23, x24, x141000, x141001 => if x24 < x23 then (if 0 ≤ x24 then (if x24 < (x22.length : Int) then ((trees_right.f k ((rd_T40 x22 x24).f0) ((rd_T40 x22 x24).f1) ((rd_T40 x22 x24).f2) ((rd_T40 x22 x24).f3) ((rd_T40 x22 x24).f4) ((rd_T40 x22 x24).f5) ((rd_T40 x22 x24).f6) ((rd_T40 x22 x24).f7) (x141001.length : Int)).bind fun t146 => (if t146 = true then ((trees_inner.f ((rd_T40 x22 x24).f0) ((rd_T40 x22 x24).f1) ((rd_T40 x22 x24).f2) ((rd_T40 x22 x24).f3) ((rd_T40 x22 x24).f4) ((rd_T40 x22 x24).f5) ((rd_T40 x22 x24).f6) ((rd_T40 x22 x24).f7)).bind fun t147 => (if t147 = true then (if 0 ≤ ((rd_T40 x22 x24).f6) then (if ((rd_T40 x22 x24).f6) < (x4.length : Int) then ((some (x4.set (((rd_T40 x22 x24).f6) : Int).toNat (wrap64 ((rd x4 ((rd_T40 x22 x24).f6)) + 1)) : List Int)).bind fun y149 => (if 0 ≤ ((rd_T40 x22 x24).f7) then (if ((rd_T40 x22 x24).f7) < (x4.length : Int) then (trees_Shape.l0 k (y149.set (((rd_T40 x22 x24).f7) : Int).toNat (wrap64 ((rd y149 ((rd_T40 x22 x24).f7)) + 1))) x22 x23 (wrap64 (x24 + 1)) x141000 x141001) else (none)) else (none))) else (none)) else (none)) else (trees_Shape.l0 k x4 x22 x23 (wrap64 (x24 + 1)) x141000 x141001))) else (some (71, x24)))) else (none)) else (none)) else (if 0 ≤ (x141001.length : Int) then (if ((x141001.length : Int) : Int).toNat ≤ 281474976710656 then (trees_Shape.l1 k x4 (List.replicate ((x141001.length : Int) : Int).toNat false) (([0] : List Int)) x141000 x141001) else (none)) else (none))
def trees_Shape.l1 : Nat → List Int → List Bool → List Int → Int → List (S40) → Option (Int × Int)
 | 0, _, _, _, _, _ => none
 | k + 1, x4, x7, x8, x141000, x141001 => if (x8.length : Int) > 0 then (if 0 ≤ (wrap64 ((x8.length : Int) - 1)) then (if (wrap64 ((x8.length : Int) - 1)) < (x8.length : Int) then (if (wrap64 ((x8.length : Int) - 1)) ≤ (x8.length : Int) then ((some (x8.take ((wrap64 ((x8.length : Int) - 1)) : Int).toNat : List Int)).bind fun y159 => (if 0 ≤ (rd x8 (wrap64 ((x8.length : Int) - 1))) then (if (rd x8 (wrap64 ((x8.length : Int) - 1))) < (x7.length : Int) then (if rdOf false x7 (rd x8 (wrap64 ((x8.length : Int) - 1))) = true then (trees_Shape.l1 k x4 x7 y159 x141000 x141001) else ((some (x7.set ((rd x8 (wrap64 ((x8.length : Int) - 1))) : Int).toNat true : List Bool)).bind fun y163 => (if (rd x8 (wrap64 ((x8.length : Int) - 1))) < (x141001.length : Int) then ((trees_inner.f ((rd_T40 x141001 (rd x8 (wrap64 ((x8.length : Int) - 1)))).f0) ((rd_T40 x141001 (rd x8 (wrap64 ((x8.length : Int) - 1)))).f1) ((rd_T40 x141001 (rd x8 (wrap64 ((x8.length : Int) - 1)))).f2) ((rd_T40 x141001 (rd x8 (wrap64 ((x8.length : Int) - 1)))).f3) ((rd_T40 x141001 (rd x8 (wrap64 ((x8.length : Int) - 1)))).f4) ((rd_T40 x141001 (rd x8 (wrap64 ((x8.length : Int) - 1)))).f5) ((rd_T40 x141001 (rd x8 (wrap64 ((x8.length : Int) - 1)))).f6) ((rd_T40 x141001 (rd x8 (wrap64 ((x8.length : Int) - 1)))).f7)).bind fun t166 => (if t166 = true then ((some (([(rd_T40 x141001 (rd x8 (wrap64 ((x8.length : Int) - 1)))).f6, (rd_T40 x141001 (rd x8 (wrap64 ((x8.length : Int) - 1)))).f7] : List Int) : List Int)).bind fun y167 => (if y159.length + y167.length < 17592186044416 then (trees_Shape.l1 k x4 y163 (y159 ++ y167) x141000 x141001) else (none))) else (trees_Shape.l1 k x4 y163 y159 x141000 x141001))) else (none)))) else (none)) else (none))) else (none)) else (none)) else (none)) else (trees_Shape.l2 k x4 x7 (x141001.length : Int) 0)
def trees_Shape.l2 : Nat → List Int → List Bool → Int → Int → Option (Int × Int)
 | 0, _, _, _, _ => none
 | k + 1, x4, x7, x95, x96 => if x96 < x95 then (if 0 ≤ x96 then (if x96 < (x4.length : Int) then (if (rd x4 x96) = (mn x96 1) then (if x96 < (x7.length : Int) then (if rdOf false x7 x96 = true then (trees_Shape.l2 k x4 x7 x95 (wrap64 (x96 + 1))) else (some (70, x96))) else (none)) else (some (70, x96))) else (none)) else (none)) else (some (0, 0))
end
def trees_Shape.f (k : Nat) (a0_0 : Int) (l0_1 : List (S40)) : Option (Int × Int) := if (l0_1.length : Int) = 0 then (some (70, 0)) else (if 0 ≤ (l0_1.length : Int) then (if ((l0_1.length : Int) : Int).toNat ≤ 35184372088832 then (trees_Shape.l0 k (List.replicate ((l0_1.length : Int) : Int).toNat 0) l0_1 (l0_1.length : Int) 0 a0_0 l0_1) else (none)) else (none))
theorem trees_Shape.mono_l : ∀ k, (∀ y0 y1 y2 y3 y4 y5, LeO (trees_Shape.l0 k y0 y1 y2 y3 y4 y5) (trees_Shape.l0 (k + 1) y0 y1 y2 y3 y4 y5)) ∧ (∀ y0 y1 y2 y3 y4, LeO (trees_Shape.l1 k y0 y1 y2 y3 y4) (trees_Shape.l1 (k + 1) y0 y1 y2 y3 y4)) ∧ (∀ y0 y1 y2 y3, LeO (trees_Shape.l2 k y0 y1 y2 y3) (trees_Shape.l2 (k + 1) y0 y1 y2 y3))
 | 0 => ⟨fun _ _ _ _ _ _ r h => by simp [trees_Shape.l0] at h, fun _ _ _ _ _ r h => by simp [trees_Shape.l1] at h, fun _ _ _ _ r h => by simp [trees_Shape.l2] at h⟩
 | k + 1 => by
  obtain ⟨ih0, ih1, ih2⟩ := trees_Shape.mono_l k
  refine ⟨?_, ?_, ?_⟩
  ·intro y0 y1 y2 y3 y4 y5
   unfold trees_Shape.l0
   repeat' first
   | (with_reducible exact ih0 _ _ _ _ _ _)
   | (with_reducible exact ih1 _ _ _ _ _)
   | (with_reducible exact ih2 _ _ _ _)
   | (with_reducible exact trees_right.mono _ _ _ _ _ _ _ _ _ _)
   | (with_reducible exact LeO.refl _)
   | (with_reducible exact LeO.none _)
   | (with_reducible refine LeO.ite ?_ ?_)
   | (with_reducible refine LeO.bind ?_ (fun _ => ?_))
   | exact ih0 _ _ _ _ _ _
   | exact ih1 _ _ _ _ _
   | exact ih2 _ _ _ _
   | exact trees_right.mono _ _ _ _ _ _ _ _ _ _
   | exact LeO.none _
   | refine LeO.ite ?_ ?_
   | refine LeO.bind ?_ (fun _ => ?_)
  ·intro y0 y1 y2 y3 y4
   unfold trees_Shape.l1
   repeat' first
   | (with_reducible exact ih0 _ _ _ _ _ _)
   | (with_reducible exact ih1 _ _ _ _ _)
   | (with_reducible exact ih2 _ _ _ _)
   | (with_reducible exact trees_right.mono _ _ _ _ _ _ _ _ _ _)
   | (with_reducible exact LeO.refl _)
   | (with_reducible exact LeO.none _)
   | (with_reducible refine LeO.ite ?_ ?_)
   | (with_reducible refine LeO.bind ?_ (fun _ => ?_))
   | exact ih0 _ _ _ _ _ _
   | exact ih1 _ _ _ _ _
   | exact ih2 _ _ _ _
   | exact trees_right.mono _ _ _ _ _ _ _ _ _ _
   | exact LeO.none _
   | refine LeO.ite ?_ ?_
   | refine LeO.bind ?_ (fun _ => ?_)
  ·intro y0 y1 y2 y3
   unfold trees_Shape.l2
   repeat' first
   | (with_reducible exact ih0 _ _ _ _ _ _)
   | (with_reducible exact ih1 _ _ _ _ _)
   | (with_reducible exact ih2 _ _ _ _)
   | (with_reducible exact trees_right.mono _ _ _ _ _ _ _ _ _ _)
   | (with_reducible exact LeO.refl _)
   | (with_reducible exact LeO.none _)
   | (with_reducible refine LeO.ite ?_ ?_)
   | (with_reducible refine LeO.bind ?_ (fun _ => ?_))
   | exact ih0 _ _ _ _ _ _
   | exact ih1 _ _ _ _ _
   | exact ih2 _ _ _ _
   | exact trees_right.mono _ _ _ _ _ _ _ _ _ _
   | exact LeO.none _
   | refine LeO.ite ?_ ?_
   | refine LeO.bind ?_ (fun _ => ?_)
theorem trees_Shape.mono : ∀ a0 a1 k, LeO (trees_Shape.f k a0 a1) (trees_Shape.f (k + 1) a0 a1) := by
 intro a0 a1 k
 obtain ⟨ih0, ih1, ih2⟩ := trees_Shape.mono_l k
 unfold trees_Shape.f
 repeat' first
   | (with_reducible exact ih0 _ _ _ _ _ _)
   | (with_reducible exact ih1 _ _ _ _ _)
   | (with_reducible exact ih2 _ _ _ _)
   | (with_reducible exact trees_right.mono _ _ _ _ _ _ _ _ _ _)
   | (with_reducible exact LeO.refl _)
   | (with_reducible exact LeO.none _)
   | (with_reducible refine LeO.ite ?_ ?_)
   | (with_reducible refine LeO.bind ?_ (fun _ => ?_))
   | exact ih0 _ _ _ _ _ _
   | exact ih1 _ _ _ _ _
   | exact ih2 _ _ _ _
   | exact trees_right.mono _ _ _ _ _ _ _ _ _ _
   | exact LeO.none _
   | refine LeO.ite ?_ ?_
   | refine LeO.bind ?_ (fun _ => ?_)
set_option maxHeartbeats 8000000 in
set_option maxRecDepth 100000 in
theorem trees_Shape.calls (k : Nat) (a0_0 : Int) (A0_1 : Option Addr) (c0_1 : Nat) (l0_1 : List (S40)) (r1 : Int) (r2 : Int) (w : World) (hr0_1 : Kd.C k40 w A0_1 l0_1.length l0_1) (hc0_1 : l0_1.length ≤ c0_1) (h : trees_Shape.f k a0_0 l0_1 = some (r1, r2)) :
  Calls Tryd.prog 39 #[.agg #[.int .i64 a0_0, .slice A0_1 l0_1.length c0_1]] w fun e w' => e = .returned (.tuple #[.int .i64 r1, .int .i64 r2]) ∧ Below w.heap.size w w' := by
 have hu33 := Tryd.underlying33
 have hu40 := Tryd.underlying40
 have HR0_1 := Aside0.mk hr0_1
 have HC0_1 := Aside0.mk hc0_1
 clear hr0_1 hc0_1
 have HB := Aside0.mk (Below.refl w.heap.size w)
 have H : (if (l0_1.length : Int) = 0 then (some (70, 0)) else (if 0 ≤ (l0_1.length : Int) then (if ((l0_1.length : Int) : Int).toNat ≤ 35184372088832 then (trees_Shape.l0 k (List.replicate ((l0_1.length : Int) : Int).toNat 0) l0_1 (l0_1.length : Int) 0 a0_0 l0_1) else (none)) else (none))) = some (r1, r2) := h
 clear h
 by_cases c2 : (l0_1.length : Int) = 0
 ·rw [if_pos c2] at H
  have c2b0 : ((l0_1.length : Int) == 0) = true := beq_iff_eq.mpr c2
  have c2b1 : ((l0_1.length : Int) != 0) = false := bne_eq_false_iff_eq.mpr c2
  clear c2
  simp only [Option.some.injEq, Prod.mk.injEq] at H
  obtain ⟨rfl, rfl⟩ := H
  go_enter Tryd.func39, Tryd.ntmps39
  go_wp2_with (first | ((with_reducible refine gate_dst (N := 1) rfl ?_); refine box_event ?hg (N := 1) ?hd (cs := #[.int .i64 a0_0, .slice A0_1 l0_1.length c0_1]) (t := 33) ?hr ?_; (case hd => rfl); (case hg => rfl); (case hr => first | (go_simp; done) | (go_simp; rfl)); intro gb140 hg w3 hbox hb; have n0_ := Aside0.mk (below_step (kB0 HB) hb); have n1_ := Aside0.mk (hbox); have n2_ := Aside0.mk ((kg hg (kB0 HB) : w.heap.size ≤ gb140)); have n3_ := Aside0.mk ((kg hg (kB0 HB) : w.heap.size ≤ gb140)); clear HB; have HB := n0_; have BK140 := n1_; have GW140 := n2_; have GE140 := n3_; clear n0_ n1_ n2_ n3_; clear hb hbox hg; have hcz4 := blk2 (w := w3) BK140.out))
  go_ret2
  exact ⟨by first | rfl | (simp [errW_none, errW_some] <;> rfl) | (simp [*, errW_none, errW_some] <;> rfl), kB1 HB GE140⟩
 ·rw [if_neg c2] at H
  have c2b0 : ((l0_1.length : Int) == 0) = false := beq_eq_false_iff_ne.mpr c2
  have c2b1 : ((l0_1.length : Int) != 0) = true := bne_iff_ne.mpr c2
  have c2b2 : ¬ (l0_1 = []) := fun h_ => c2 (by rw [h_]; rfl)
  by_cases c5 : 0 ≤ (l0_1.length : Int)
  ·rw [if_pos c5] at H
   have c5b0 := eq_true c5
   have c5b1 : decide (0 ≤ (l0_1.length : Int)) = true := decide_eq_true c5
   clear c5
   by_cases c6 : ((l0_1.length : Int) : Int).toNat ≤ 35184372088832
   ·rw [if_pos c6] at H
    have c6b0 := eq_true c6
    have c6b1 : decide (((l0_1.length : Int) : Int).toNat ≤ 35184372088832) = true := decide_eq_true c6
    clear c6
    obtain ⟨y141, hy141⟩ : ∃ y_ : List Int, y_ = (List.replicate ((l0_1.length : Int) : Int).toNat 0) := ⟨_, rfl⟩
    replace H : (trees_Shape.l0 k y141 l0_1 (l0_1.length : Int) 0 a0_0 l0_1) = some (r1, r2) := by first | (rw [hy141]; with_reducible exact H) | (have H2_ := (Option.bind_some _ _).symm.trans H; rw [hy141]; with_reducible exact H2_) | (have H2_ := (Option.bind_some _ _).symm.trans H; with_reducible exact H2_) | with_reducible exact H | (rw [hy141]; exact H) | exact H
    have Ny141 := Aside0.mk hy141
    clear hy141
    have H' := Aside0.mk H
    clear H
    go_enter Tryd.func39, Tryd.ntmps39
    go_wp2_with (first | ((with_reducible refine gate_dst (N := 1) rfl ?_); refine box_event ?hg (N := 1) ?hd (cs := #[.int .i64 a0_0, .slice A0_1 l0_1.length c0_1]) (t := 33) ?hr ?_; (case hd => rfl); (case hg => rfl); (case hr => first | (go_simp; done) | (go_simp; rfl)); intro gb140 hg w7 hbox hb; have n0_ := Aside0.mk (below_step (kB0 HB) hb); have n1_ := Aside0.mk (hbox); have n2_ := Aside0.mk ((kg hg (kB0 HB) : w.heap.size ≤ gb140)); have n3_ := Aside0.mk ((kg hg (kB0 HB) : w.heap.size ≤ gb140)); clear HB; have HB := n0_; have BK140 := n1_; have GW140 := n2_; have GE140 := n3_; clear n0_ n1_ n2_ n3_; clear hb hbox hg; have hcz8 := blk2 (w := w7) BK140.out) | ((with_reducible refine gate_dst (N := 20) rfl ?_); refine Kd.R_make (Kd.int .i64) _ 3 rfl (N := 20) rfl 37 _ _ rfl (l0_1.length : Int) rfl rfl Tryd.underlying37 (.int .i64 0) 8 info3 rfl (by decide) (by omega) 0 (ok := fun _ => True) (okp := fun _ => True) rfl (fun _ hk => hk) trivial (of_decide_eq_true ka) (Nat.le_trans (Nat.mul_le_mul_right _ (of_decide_eq_true ka : (l0_1.length : Int).toNat ≤ 35184372088832)) (by omega)) (Below.refl _ _) (Nat.le_refl _) ?_; intro v142 w9 ho10 hb hg_ hnew_; clear hg_ hnew_; (first | rw [← Ny141.out] at ho10 | (simp only [Int.reduceToNat] at ho10; rw [← Ny141.out] at ho10)); have n0_ := Aside0.mk (Kd.R_lower ho10 (below_size (kB1 HB GE140))); have n1_ := Aside0.mk (blk_below (g := gb140) (o := .cells #[.int .i64 a0_0, .slice A0_1 l0_1.length c0_1] 33 (0, 0)) (kb BK140) hb); have n2_ := Aside0.mk (below_step (kB1 HB GE140) hb); clear BK140; clear HB; have HO143 := n0_; have BK140 := n1_; have HB := n2_; clear n0_ n1_ n2_; clear hb ho10; have hcz11 := blk2 (w := w9) BK140.out))
    go_loopg [24] k (fun kq v24 w' => ∃ (x4_1 : List Int) (x24_1 : Int), v24 = .int .i64 x24_1 ∧ Aside0 (trees_Shape.l0 kq x4_1 l0_1 (l0_1.length : Int) x24_1 a0_0 l0_1 = some (r1, r2)) ∧ Aside0 (kq ≤ k) ∧ Aside0 (Kd.R (Kd.int .i64) 3 w' w.heap.size (fun _ => True) v142 x4_1) ∧ Aside0 (w'.heap[gb140]? = some (.cells #[.int .i64 a0_0, (.slice A0_1 l0_1.length c0_1)] 33 (0, 0))) ∧ Aside0 (Below w.heap.size w w'))
    case atStart => exact ⟨(y141), (0), kr, H', ⟨Nat.le_refl _⟩, ⟨kR HO143⟩, ⟨kb BK140⟩, ⟨kB1 HB GE140⟩⟩
    case round =>
     clear H'
     try clear c2
     try clear c2b0
     try clear c2b1
     try clear c2b2
     try clear p2
     try clear c3
     try clear c5
     try clear c5b0
     try clear c5b1
     try clear c6
     try clear c6b0
     try clear c6b1
     try clear hcz11
     try clear hcz4
     try clear hcz8
     obtain ⟨x4_1, x24_1, rfl, HA, HK1, HO_4, BK140, HB⟩ := hrel
     cases gk with
     | zero => exact absurd HA.out (by simp [trees_Shape.l0])
     | succ k1 =>
      have H := HA.out
      clear HA
      simp only [trees_Shape.l0] at H
      by_cases c12 : x24_1 < (l0_1.length : Int)
      ·rw [if_pos c12] at H
       have c12b0 : decide (x24_1 < (l0_1.length : Int)) = true := decide_eq_true c12
       clear c12
       by_cases c13 : 0 ≤ x24_1
       ·rw [if_pos c13] at H
        have c13b0 : decide (0 ≤ x24_1) = true := decide_eq_true c13
        clear c13
        by_cases c14 : x24_1 < (l0_1.length : Int)
        ·rw [if_pos c14] at H
         have c14b0 : decide (x24_1 < (l0_1.length : Int)) = true := decide_eq_true c14
         clear c14
         replace H := Option.bind_eq_some_iff.mp H
         obtain ⟨t146, A150, H⟩ := H
         replace H : (if t146 = true then ((trees_inner.f ((rd_T40 l0_1 x24_1).f0) ((rd_T40 l0_1 x24_1).f1) ((rd_T40 l0_1 x24_1).f2) ((rd_T40 l0_1 x24_1).f3) ((rd_T40 l0_1 x24_1).f4) ((rd_T40 l0_1 x24_1).f5) ((rd_T40 l0_1 x24_1).f6) ((rd_T40 l0_1 x24_1).f7)).bind fun t147 => (if t147 = true then (if 0 ≤ ((rd_T40 l0_1 x24_1).f6) then (if ((rd_T40 l0_1 x24_1).f6) < (x4_1.length : Int) then ((some (x4_1.set (((rd_T40 l0_1 x24_1).f6) : Int).toNat (wrap64 ((rd x4_1 ((rd_T40 l0_1 x24_1).f6)) + 1)) : List Int)).bind fun y149 => (if 0 ≤ ((rd_T40 l0_1 x24_1).f7) then (if ((rd_T40 l0_1 x24_1).f7) < (x4_1.length : Int) then (trees_Shape.l0 k1 (y149.set (((rd_T40 l0_1 x24_1).f7) : Int).toNat (wrap64 ((rd y149 ((rd_T40 l0_1 x24_1).f7)) + 1))) l0_1 (l0_1.length : Int) (wrap64 (x24_1 + 1)) a0_0 l0_1) else (none)) else (none))) else (none)) else (none)) else (trees_Shape.l0 k1 x4_1 l0_1 (l0_1.length : Int) (wrap64 (x24_1 + 1)) a0_0 l0_1))) else (some (71, x24_1))) = some (r1, r2) := H
         have A15 := Aside0.mk A150
         clear A150
         by_cases c16 : t146 = true
         ·subst c16
          have H1 : ((trees_inner.f ((rd_T40 l0_1 x24_1).f0) ((rd_T40 l0_1 x24_1).f1) ((rd_T40 l0_1 x24_1).f2) ((rd_T40 l0_1 x24_1).f3) ((rd_T40 l0_1 x24_1).f4) ((rd_T40 l0_1 x24_1).f5) ((rd_T40 l0_1 x24_1).f6) ((rd_T40 l0_1 x24_1).f7)).bind fun t147 => (if t147 = true then (if 0 ≤ ((rd_T40 l0_1 x24_1).f6) then (if ((rd_T40 l0_1 x24_1).f6) < (x4_1.length : Int) then ((some (x4_1.set (((rd_T40 l0_1 x24_1).f6) : Int).toNat (wrap64 ((rd x4_1 ((rd_T40 l0_1 x24_1).f6)) + 1)) : List Int)).bind fun y149 => (if 0 ≤ ((rd_T40 l0_1 x24_1).f7) then (if ((rd_T40 l0_1 x24_1).f7) < (x4_1.length : Int) then (trees_Shape.l0 k1 (y149.set (((rd_T40 l0_1 x24_1).f7) : Int).toNat (wrap64 ((rd y149 ((rd_T40 l0_1 x24_1).f7)) + 1))) l0_1 (l0_1.length : Int) (wrap64 (x24_1 + 1)) a0_0 l0_1) else (none)) else (none))) else (none)) else (none)) else (trees_Shape.l0 k1 x4_1 l0_1 (l0_1.length : Int) (wrap64 (x24_1 + 1)) a0_0 l0_1))) = some (r1, r2) := by rw [if_pos rfl] at H; exact H
          clear H
          have H := H1
          clear H1
          replace H := Option.bind_eq_some_iff.mp H
          obtain ⟨t147, A170, H⟩ := H
          replace H : (if t147 = true then (if 0 ≤ ((rd_T40 l0_1 x24_1).f6) then (if ((rd_T40 l0_1 x24_1).f6) < (x4_1.length : Int) then ((some (x4_1.set (((rd_T40 l0_1 x24_1).f6) : Int).toNat (wrap64 ((rd x4_1 ((rd_T40 l0_1 x24_1).f6)) + 1)) : List Int)).bind fun y149 => (if 0 ≤ ((rd_T40 l0_1 x24_1).f7) then (if ((rd_T40 l0_1 x24_1).f7) < (x4_1.length : Int) then (trees_Shape.l0 k1 (y149.set (((rd_T40 l0_1 x24_1).f7) : Int).toNat (wrap64 ((rd y149 ((rd_T40 l0_1 x24_1).f7)) + 1))) l0_1 (l0_1.length : Int) (wrap64 (x24_1 + 1)) a0_0 l0_1) else (none)) else (none))) else (none)) else (none)) else (trees_Shape.l0 k1 x4_1 l0_1 (l0_1.length : Int) (wrap64 (x24_1 + 1)) a0_0 l0_1)) = some (r1, r2) := H
          have A17 := Aside0.mk A170
          clear A170
          by_cases c18 : t147 = true
          ·subst c18
           have H1 : (if 0 ≤ ((rd_T40 l0_1 x24_1).f6) then (if ((rd_T40 l0_1 x24_1).f6) < (x4_1.length : Int) then ((some (x4_1.set (((rd_T40 l0_1 x24_1).f6) : Int).toNat (wrap64 ((rd x4_1 ((rd_T40 l0_1 x24_1).f6)) + 1)) : List Int)).bind fun y149 => (if 0 ≤ ((rd_T40 l0_1 x24_1).f7) then (if ((rd_T40 l0_1 x24_1).f7) < (x4_1.length : Int) then (trees_Shape.l0 k1 (y149.set (((rd_T40 l0_1 x24_1).f7) : Int).toNat (wrap64 ((rd y149 ((rd_T40 l0_1 x24_1).f7)) + 1))) l0_1 (l0_1.length : Int) (wrap64 (x24_1 + 1)) a0_0 l0_1) else (none)) else (none))) else (none)) else (none)) = some (r1, r2) := by rw [if_pos rfl] at H; exact H
           clear H
           have H := H1
           clear H1
           by_cases c19 : 0 ≤ ((rd_T40 l0_1 x24_1).f6)
           ·rw [if_pos c19] at H
            have c19b0 : decide (0 ≤ ((rd_T40 l0_1 x24_1).f6)) = true := decide_eq_true c19
            clear c19
            by_cases c20 : ((rd_T40 l0_1 x24_1).f6) < (x4_1.length : Int)
            ·rw [if_pos c20] at H
             have c20b0 : decide (((rd_T40 l0_1 x24_1).f6) < (x4_1.length : Int)) = true := decide_eq_true c20
             clear c20
             obtain ⟨y149, hy149⟩ : ∃ y_ : List Int, y_ = (x4_1.set (((rd_T40 l0_1 x24_1).f6) : Int).toNat (wrap64 ((rd x4_1 ((rd_T40 l0_1 x24_1).f6)) + 1))) := ⟨_, rfl⟩
             replace H : (if 0 ≤ ((rd_T40 l0_1 x24_1).f7) then (if ((rd_T40 l0_1 x24_1).f7) < (x4_1.length : Int) then (trees_Shape.l0 k1 (y149.set (((rd_T40 l0_1 x24_1).f7) : Int).toNat (wrap64 ((rd y149 ((rd_T40 l0_1 x24_1).f7)) + 1))) l0_1 (l0_1.length : Int) (wrap64 (x24_1 + 1)) a0_0 l0_1) else (none)) else (none)) = some (r1, r2) := by first | (rw [hy149]; with_reducible exact H) | (have H2_ := (Option.bind_some _ _).symm.trans H; rw [hy149]; with_reducible exact H2_) | (have H2_ := (Option.bind_some _ _).symm.trans H; with_reducible exact H2_) | with_reducible exact H | (rw [hy149]; exact H) | exact H
             have Ny149 := Aside0.mk hy149
             clear hy149
             by_cases c22 : 0 ≤ ((rd_T40 l0_1 x24_1).f7)
             ·rw [if_pos c22] at H
              have c22b0 : decide (0 ≤ ((rd_T40 l0_1 x24_1).f7)) = true := decide_eq_true c22
              clear c22
              by_cases c23 : ((rd_T40 l0_1 x24_1).f7) < (x4_1.length : Int)
              ·rw [if_pos c23] at H
               have c23b0 : decide (((rd_T40 l0_1 x24_1).f7) < (x4_1.length : Int)) = true := decide_eq_true c23
               clear c23
               obtain ⟨y151, hy151⟩ : ∃ y_ : List Int, y_ = (y149.set (((rd_T40 l0_1 x24_1).f7) : Int).toNat (wrap64 ((rd y149 ((rd_T40 l0_1 x24_1).f7)) + 1))) := ⟨_, rfl⟩
               replace H : (trees_Shape.l0 k1 y151 l0_1 (l0_1.length : Int) (wrap64 (x24_1 + 1)) a0_0 l0_1) = some (r1, r2) := by first | (rw [hy151]; with_reducible exact H) | (have H2_ := (Option.bind_some _ _).symm.trans H; rw [hy151]; with_reducible exact H2_) | (have H2_ := (Option.bind_some _ _).symm.trans H; with_reducible exact H2_) | with_reducible exact H | (rw [hy151]; exact H) | exact H
               have Ny151 := Aside0.mk hy151
               clear hy151
               have H' := Aside0.mk H
               clear H
               have p144 : 0 ≤ (x24_1 : Int) := of_decide_eq_true ka
               have q144 : x24_1 < (l0_1.length : Int) := of_decide_eq_true ka
               obtain ⟨ad144, A144_4, c144_4, e144, hx144_0, hx144_1, hx144_2, hx144_3, hx144_4, hx144_5, hx144_6, hx144_7, hl144_4, hi144_4⟩ := at_T40 HR0_1.out x24_1 p144 q144
               cases e144
               replace hx144_0 := (HB.out.cell (World.block_lt_of_cell? w _ hx144_0)).trans hx144_0
               replace hx144_1 := (HB.out.cell (World.block_lt_of_cell? w _ hx144_1)).trans hx144_1
               replace hx144_2 := (HB.out.cell (World.block_lt_of_cell? w _ hx144_2)).trans hx144_2
               replace hx144_3 := (HB.out.cell (World.block_lt_of_cell? w _ hx144_3)).trans hx144_3
               replace hx144_4 := (HB.out.cell (World.block_lt_of_cell? w _ hx144_4)).trans hx144_4
               replace hx144_5 := (HB.out.cell (World.block_lt_of_cell? w _ hx144_5)).trans hx144_5
               replace hx144_6 := (HB.out.cell (World.block_lt_of_cell? w _ hx144_6)).trans hx144_6
               replace hx144_7 := (HB.out.cell (World.block_lt_of_cell? w _ hx144_7)).trans hx144_7
               have HR144_4 := Aside0.mk hi144_4
               have HC144_4 := Aside0.mk hl144_4
               clear hi144_4 hl144_4
               replace p144 := eq_true p144
               replace q144 := eq_true q144
               go_wp2_with (first | ((with_reducible refine gate_dst (N := 6) rfl ?_); refine box_event ?hg (N := 6) ?hd (cs := #[.int .u8 0, .int .i64 0, .int .i64 0, .float .f64 0, .slice none 0 0, .int .u8 0, .int .i64 0, .int .i64 0]) (t := 40) ?hr ?_; (case hd => rfl); (case hg => rfl); (case hr => first | (go_simp; done) | (go_simp; rfl)); intro gb145 hg w25 hbox hb; have n0_ := Aside0.mk (Kd.R_below (kR HO_4) hb); have n1_ := Aside0.mk (blk_below (g := gb140) (o := .cells #[.int .i64 a0_0, .slice (some ad144) l0_1.length c0_1] 33 (0, 0)) (kb BK140) hb); have n2_ := Aside0.mk (below_step (kB1 HB GE140) hb); have n3_ := Aside0.mk (hbox); have n4_ := Aside0.mk ((kg hg (kB1 HB GE140) : w.heap.size ≤ gb145)); have n5_ := Aside0.mk ((kg hg (kB1 HB GE140) : w.heap.size ≤ gb145)); have n6_ := Aside0.mk ((by rw [hg]; exact Nat.ne_of_lt (blk_lt (g := gb140) (o := .cells #[.int .i64 a0_0, .slice (some ad144) l0_1.length c0_1] 33 (0, 0)) (kb BK140)) : gb140 ≠ gb145)); have n7_ := Aside0.mk ((by rw [hg]; exact Nat.ne_of_gt (blk_lt (g := gb140) (o := .cells #[.int .i64 a0_0, .slice (some ad144) l0_1.length c0_1] 33 (0, 0)) (kb BK140)) : gb145 ≠ gb140)); clear HO_4; clear BK140; clear HB; have HO_4 := n0_; have BK140 := n1_; have HB := n2_; have BK145 := n3_; have GW145 := n4_; have GE145 := n5_; have NB140_145 := n6_; have NB145_140 := n7_; clear n0_ n1_ n2_ n3_ n4_ n5_ n6_ n7_; clear hb hbox hg; have hnb26 := NB145_140.out; have hnc26 := NB140_145.out; have hcz27 := blk8 (w := w25) BK145.out; have hcz28 := blk2 (w := w25) BK140.out) | ((with_reducible refine gate_callee (f := 52) rfl ?_); refine goesL_ (some 33) rfl rfl Tryd.func52 (by kernel_rfl) rfl #[.agg #[.int .u8 ((rd_T40 l0_1 x24_1).f0), .int .i64 ((rd_T40 l0_1 x24_1).f1), .int .i64 ((rd_T40 l0_1 x24_1).f2), .float .f64 ((rd_T40 l0_1 x24_1).f3), .slice A144_4 ((rd_T40 l0_1 x24_1).f4).length c144_4, .int .u8 ((rd_T40 l0_1 x24_1).f5), .int .i64 ((rd_T40 l0_1 x24_1).f6), .int .i64 ((rd_T40 l0_1 x24_1).f7)], .int .i64 (l0_1.length : Int)] rfl (by (try simp only [List.map_toArray, List.map_cons, List.map_nil]); first | done | rfl | (simp only [List.length_drop, List.length_take]; rfl)) ?_; (with_reducible refine (trees_right.calls k1 ((rd_T40 l0_1 x24_1).f0) ((rd_T40 l0_1 x24_1).f1) ((rd_T40 l0_1 x24_1).f2) ((rd_T40 l0_1 x24_1).f3) _ _ ((rd_T40 l0_1 x24_1).f4) ((rd_T40 l0_1 x24_1).f5) ((rd_T40 l0_1 x24_1).f6) ((rd_T40 l0_1 x24_1).f7) (l0_1.length : Int) true _ ?side1 ?side2 A15.out).mono ?_); (case side1 => exact Kd.C_below HR144_4.out (kB2 HB GE140 GE145)); (case side2 => exact HC144_4.out); rintro e w29 ⟨rfl, hb⟩; refine ⟨_, rfl, ?_⟩; have n0_ := Aside0.mk (Kd.R_below (by (with_reducible repeat (first | apply Kd.R_alloc | apply Kd.R_drewN | apply Kd.R_drew)); exact (Kd.R_mono (Kd.R_far (p := ⟨gb145, 7, none⟩) (Kd.R_far (p := ⟨gb145, 6, none⟩) (Kd.R_far (p := ⟨gb145, 5, none⟩) (Kd.R_far (p := ⟨gb145, 4, none⟩) (Kd.R_far (p := ⟨gb145, 3, none⟩) (Kd.R_far (p := ⟨gb145, 2, none⟩) (Kd.R_far (p := ⟨gb145, 1, none⟩) (Kd.R_far (p := ⟨gb145, 0, none⟩) (Kd.R_types HO_4.out BK145.out (by decide)) (fun _ hk => hk.2) (.int .u8 ((rd_T40 l0_1 x24_1).f0))) (fun _ hk => hk.2) (.int .i64 ((rd_T40 l0_1 x24_1).f1))) (fun _ hk => hk.2) (.int .i64 ((rd_T40 l0_1 x24_1).f2))) (fun _ hk => hk.2) (.float .f64 ((rd_T40 l0_1 x24_1).f3))) (fun _ hk => hk.2) (.slice A144_4 ((rd_T40 l0_1 x24_1).f4).length c144_4)) (fun _ hk => hk.2) (.int .u8 ((rd_T40 l0_1 x24_1).f5))) (fun _ hk => hk.2) (.int .i64 ((rd_T40 l0_1 x24_1).f6))) (fun _ hk => hk.2) (.int .i64 ((rd_T40 l0_1 x24_1).f7))) (fun _ h_ => h_.1))) hb); have n1_ := Aside0.mk (blk_below (g := gb140) (o := .cells #[.int .i64 a0_0, .slice (some ad144) l0_1.length c0_1] 33 (0, 0)) (by (with_reducible repeat (first | refine blk_drewN ?_ _ | refine blk_drew ?_ | refine blk_alloc ?_ _)); refine blk_far ?_ NB140_145.out _; (with_reducible repeat (first | refine blk_drewN ?_ _ | refine blk_drew ?_ | refine blk_alloc ?_ _)); refine blk_far ?_ NB140_145.out _; (with_reducible repeat (first | refine blk_drewN ?_ _ | refine blk_drew ?_ | refine blk_alloc ?_ _)); refine blk_far ?_ NB140_145.out _; (with_reducible repeat (first | refine blk_drewN ?_ _ | refine blk_drew ?_ | refine blk_alloc ?_ _)); refine blk_far ?_ NB140_145.out _; (with_reducible repeat (first | refine blk_drewN ?_ _ | refine blk_drew ?_ | refine blk_alloc ?_ _)); refine blk_far ?_ NB140_145.out _; (with_reducible repeat (first | refine blk_drewN ?_ _ | refine blk_drew ?_ | refine blk_alloc ?_ _)); refine blk_far ?_ NB140_145.out _; (with_reducible repeat (first | refine blk_drewN ?_ _ | refine blk_drew ?_ | refine blk_alloc ?_ _)); refine blk_far ?_ NB140_145.out _; (with_reducible repeat (first | refine blk_drewN ?_ _ | refine blk_drew ?_ | refine blk_alloc ?_ _)); refine blk_far ?_ NB140_145.out _; (with_reducible repeat (first | refine blk_drewN ?_ _ | refine blk_drew ?_ | refine blk_alloc ?_ _)); exact BK140.out) hb); have n2_ := Aside0.mk (blk_below (g := gb145) (o := .cells #[.int .u8 ((rd_T40 l0_1 x24_1).f0), .int .i64 ((rd_T40 l0_1 x24_1).f1), .int .i64 ((rd_T40 l0_1 x24_1).f2), .float .f64 ((rd_T40 l0_1 x24_1).f3), .slice A144_4 ((rd_T40 l0_1 x24_1).f4).length c144_4, .int .u8 ((rd_T40 l0_1 x24_1).f5), .int .i64 ((rd_T40 l0_1 x24_1).f6), .int .i64 ((rd_T40 l0_1 x24_1).f7)] 40 (0, 0)) (by (with_reducible repeat (first | refine blk_drewN ?_ _ | refine blk_drew ?_ | refine blk_alloc ?_ _)); refine blk_put (cs := #[.int .u8 ((rd_T40 l0_1 x24_1).f0), .int .i64 ((rd_T40 l0_1 x24_1).f1), .int .i64 ((rd_T40 l0_1 x24_1).f2), .float .f64 ((rd_T40 l0_1 x24_1).f3), .slice A144_4 ((rd_T40 l0_1 x24_1).f4).length c144_4, .int .u8 ((rd_T40 l0_1 x24_1).f5), .int .i64 ((rd_T40 l0_1 x24_1).f6), .int .i64 0]) ?_ 7 _ rfl; (with_reducible repeat (first | refine blk_drewN ?_ _ | refine blk_drew ?_ | refine blk_alloc ?_ _)); refine blk_put (cs := #[.int .u8 ((rd_T40 l0_1 x24_1).f0), .int .i64 ((rd_T40 l0_1 x24_1).f1), .int .i64 ((rd_T40 l0_1 x24_1).f2), .float .f64 ((rd_T40 l0_1 x24_1).f3), .slice A144_4 ((rd_T40 l0_1 x24_1).f4).length c144_4, .int .u8 ((rd_T40 l0_1 x24_1).f5), .int .i64 0, .int .i64 0]) ?_ 6 _ rfl; (with_reducible repeat (first | refine blk_drewN ?_ _ | refine blk_drew ?_ | refine blk_alloc ?_ _)); refine blk_put (cs := #[.int .u8 ((rd_T40 l0_1 x24_1).f0), .int .i64 ((rd_T40 l0_1 x24_1).f1), .int .i64 ((rd_T40 l0_1 x24_1).f2), .float .f64 ((rd_T40 l0_1 x24_1).f3), .slice A144_4 ((rd_T40 l0_1 x24_1).f4).length c144_4, .int .u8 0, .int .i64 0, .int .i64 0]) ?_ 5 _ rfl; (with_reducible repeat (first | refine blk_drewN ?_ _ | refine blk_drew ?_ | refine blk_alloc ?_ _)); refine blk_put (cs := #[.int .u8 ((rd_T40 l0_1 x24_1).f0), .int .i64 ((rd_T40 l0_1 x24_1).f1), .int .i64 ((rd_T40 l0_1 x24_1).f2), .float .f64 ((rd_T40 l0_1 x24_1).f3), .slice none 0 0, .int .u8 0, .int .i64 0, .int .i64 0]) ?_ 4 _ rfl; (with_reducible repeat (first | refine blk_drewN ?_ _ | refine blk_drew ?_ | refine blk_alloc ?_ _)); refine blk_put (cs := #[.int .u8 ((rd_T40 l0_1 x24_1).f0), .int .i64 ((rd_T40 l0_1 x24_1).f1), .int .i64 ((rd_T40 l0_1 x24_1).f2), .float .f64 0, .slice none 0 0, .int .u8 0, .int .i64 0, .int .i64 0]) ?_ 3 _ rfl; (with_reducible repeat (first | refine blk_drewN ?_ _ | refine blk_drew ?_ | refine blk_alloc ?_ _)); refine blk_put (cs := #[.int .u8 ((rd_T40 l0_1 x24_1).f0), .int .i64 ((rd_T40 l0_1 x24_1).f1), .int .i64 0, .float .f64 0, .slice none 0 0, .int .u8 0, .int .i64 0, .int .i64 0]) ?_ 2 _ rfl; (with_reducible repeat (first | refine blk_drewN ?_ _ | refine blk_drew ?_ | refine blk_alloc ?_ _)); refine blk_put (cs := #[.int .u8 ((rd_T40 l0_1 x24_1).f0), .int .i64 0, .int .i64 0, .float .f64 0, .slice none 0 0, .int .u8 0, .int .i64 0, .int .i64 0]) ?_ 1 _ rfl; (with_reducible repeat (first | refine blk_drewN ?_ _ | refine blk_drew ?_ | refine blk_alloc ?_ _)); refine blk_put (cs := #[.int .u8 0, .int .i64 0, .int .i64 0, .float .f64 0, .slice none 0 0, .int .u8 0, .int .i64 0, .int .i64 0]) ?_ 0 _ rfl; (with_reducible repeat (first | refine blk_drewN ?_ _ | refine blk_drew ?_ | refine blk_alloc ?_ _)); exact BK145.out) hb); have n3_ := Aside0.mk (below_step (kB2 HB GE140 GE145) hb); clear HO_4; clear BK140; clear BK145; clear HB; have HO_4 := n0_; have BK140 := n1_; have BK145 := n2_; have HB := n3_; clear n0_ n1_ n2_ n3_; (try clear hb); (try clear hb2); (try clear hk); (try clear hi); have hcz30 := blk8 (w := w29) BK145.out) | ((with_reducible refine gate_callee (f := 53) rfl ?_); refine goesL_ (some 37) rfl rfl Tryd.func53 (by kernel_rfl) rfl #[.agg #[.int .u8 ((rd_T40 l0_1 x24_1).f0), .int .i64 ((rd_T40 l0_1 x24_1).f1), .int .i64 ((rd_T40 l0_1 x24_1).f2), .float .f64 ((rd_T40 l0_1 x24_1).f3), .slice A144_4 ((rd_T40 l0_1 x24_1).f4).length c144_4, .int .u8 ((rd_T40 l0_1 x24_1).f5), .int .i64 ((rd_T40 l0_1 x24_1).f6), .int .i64 ((rd_T40 l0_1 x24_1).f7)]] rfl (by (try simp only [List.map_toArray, List.map_cons, List.map_nil]); first | done | rfl | (simp only [List.length_drop, List.length_take]; rfl)) ?_; (with_reducible refine (trees_inner.calls ((rd_T40 l0_1 x24_1).f0) ((rd_T40 l0_1 x24_1).f1) ((rd_T40 l0_1 x24_1).f2) ((rd_T40 l0_1 x24_1).f3) _ _ ((rd_T40 l0_1 x24_1).f4) ((rd_T40 l0_1 x24_1).f5) ((rd_T40 l0_1 x24_1).f6) ((rd_T40 l0_1 x24_1).f7) true _ ?side1 ?side2 A17.out).mono ?_); (case side1 => repeat (first | exact (Kd.C_below HR144_4.out HB.out) | (with_reducible refine Kd.C_alloc ?_ _) | (with_reducible refine Kd.C_drewN ?_ _) | (with_reducible refine Kd.C_drew ?_))); (case side2 => exact HC144_4.out); rintro e w31 ⟨rfl, hb⟩; refine ⟨_, rfl, ?_⟩; have n0_ := Aside0.mk (Kd.R_below (kR HO_4) hb); have n1_ := Aside0.mk (blk_below (g := gb140) (o := .cells #[.int .i64 a0_0, .slice (some ad144) l0_1.length c0_1] 33 (0, 0)) (kb BK140) hb); have n2_ := Aside0.mk (blk_below (g := gb145) (o := .cells #[.int .u8 ((rd_T40 l0_1 x24_1).f0), .int .i64 ((rd_T40 l0_1 x24_1).f1), .int .i64 ((rd_T40 l0_1 x24_1).f2), .float .f64 ((rd_T40 l0_1 x24_1).f3), .slice A144_4 ((rd_T40 l0_1 x24_1).f4).length c144_4, .int .u8 ((rd_T40 l0_1 x24_1).f5), .int .i64 ((rd_T40 l0_1 x24_1).f6), .int .i64 ((rd_T40 l0_1 x24_1).f7)] 40 (0, 0)) (kb BK145) hb); have n3_ := Aside0.mk (below_step (kB2 HB GE140 GE145) hb); clear HO_4; clear BK140; clear BK145; clear HB; have HO_4 := n0_; have BK140 := n1_; have BK145 := n2_; have HB := n3_; clear n0_ n1_ n2_ n3_; (try clear hb); (try clear hb2); (try clear hk); (try clear hi); have hcz32 := blk8 (w := w31) BK145.out; obtain ⟨Ao33, co33, eo33⟩ := Kd.R_slice HO_4.out; subst eo33; have p148 : 0 ≤ (((rd_T40 l0_1 x24_1).f6) : Int) := of_decide_eq_true ka; have q148 : ((rd_T40 l0_1 x24_1).f6) < (x4_1.length : Int) := of_decide_eq_true ka; obtain ⟨ad148, e148, hx148_0⟩ := Kd.at_int (Kd.R_reads' HO_4.out).2.2 ((rd_T40 l0_1 x24_1).f6) p148 q148; cases e148; replace p148 := eq_true p148; replace q148 := eq_true q148; have p21 : 0 ≤ (((rd_T40 l0_1 x24_1).f6) : Int) := of_decide_eq_true ka; have q21 : (((rd_T40 l0_1 x24_1).f6) : Int) < ((x4_1.length : Int) : Int) := of_decide_eq_true ka; obtain ⟨go21, co21, eo21, gb21, gl21, cl21, HG21⟩ := Kd.R_form HO_4.out (by omega); (first | cases eo21 | (injection eo21 with ea_ en_ ec_; (first | subst ea_ | (injection ea_ with ea_; subst ea_)); subst ec_; clear en_)); have GB21 := Aside0.mk gb21; have GG21 := Aside0.mk HG21; clear gb21 gl21 HG21; (first | simp only [add_plain] at hx148_0 | skip); obtain ⟨hx21_0, hf21_0⟩ := Kd.R_celln 0 HO_4.out (((rd_T40 l0_1 x24_1).f6) : Int) p21 q21; replace p21 := eq_true p21; replace q21 := eq_true q21; obtain ⟨hy34_, hz34_⟩ := Kd.R_celln 0 HO_4.out (((rd_T40 l0_1 x24_1).f6) : Int) (of_decide_eq_true ka) (of_decide_eq_true ka); have HP34 := Kd.R_putg HO_4.out (((rd_T40 l0_1 x24_1).f6) : Int) (wrap64 ((rd x4_1 ((rd_T40 l0_1 x24_1).f6)) + 1))) | ((with_reducible refine gate_store (t := 3) (p := 44) rfl ?_); refine store_event (t := 3) (p := 44) (v := ?vo_w35) (w1 := (w31.setCell ⟨go21, (((rd_T40 l0_1 x24_1).f6) : Int).toNat, none⟩ (.int .i64 (wrap64 ((rd x4_1 ((rd_T40 l0_1 x24_1).f6)) + 1))))) ?hg ?ho ?hn ?hr ?_; (case ho => rfl); (case hg => rfl); (case hn => rfl); (case hr => first | (go_simp; done) | (go_simp; rfl)); intro w35 hw; have hg : w31.grownBy w35 (some go21) := (by rw [hw]; exact HP34.2); have hp_ : Kd.R (Kd.int .i64) 3 w35 w.heap.size (fun _ => True) (.slice (some ⟨go21, 0, none⟩) x4_1.length co33) y149 := (by rw [hw, Ny149.out]; exact HP34.1); clear HP34; have n0_ := Aside0.mk (hp_); have n1_ := Aside0.mk (blk_grown (g := gb140) (o := .cells #[.int .i64 a0_0, .slice (some ad144) l0_1.length c0_1] 33 (0, 0)) (kb BK140) hg (Kd.R_ne HO_4.out BK140.out (by decide))); have n2_ := Aside0.mk (blk_grown (g := gb145) (o := .cells #[.int .u8 ((rd_T40 l0_1 x24_1).f0), .int .i64 ((rd_T40 l0_1 x24_1).f1), .int .i64 ((rd_T40 l0_1 x24_1).f2), .float .f64 ((rd_T40 l0_1 x24_1).f3), .slice A144_4 ((rd_T40 l0_1 x24_1).f4).length c144_4, .int .u8 ((rd_T40 l0_1 x24_1).f5), .int .i64 ((rd_T40 l0_1 x24_1).f6), .int .i64 ((rd_T40 l0_1 x24_1).f7)] 40 (0, 0)) (kb BK145) hg (Kd.R_ne HO_4.out BK145.out (by decide))); have n3_ := Aside0.mk ((by rw [hw]; exact below_set (HB.out) GB21.out : Below w.heap.size w w35)); clear HO_4; clear BK140; clear BK145; clear HB; have HO_4 := n0_; have BK140 := n1_; have BK145 := n2_; have HB := n3_; clear n0_ n1_ n2_ n3_; clear hg hw hp_; have hcz36 := blk8 (w := w35) BK145.out; have p150 : 0 ≤ (((rd_T40 l0_1 x24_1).f7) : Int) := of_decide_eq_true ka; have q150 : ((rd_T40 l0_1 x24_1).f7) < (y149.length : Int) := (by have h_ : (((rd_T40 l0_1 x24_1).f7) : Int) < ((x4_1.length : Int) : Int) := of_decide_eq_true ka; first | (have e_ := (Kd.R_reads' HO_4.out).1; omega) | simpa only [Ny149.out, List.length_set] using h_); have ql150 : ((((rd_T40 l0_1 x24_1).f7) : Int) < ((x4_1.length : Int) : Int)) = True := eq_true (of_decide_eq_true ka); obtain ⟨ad150, e150, hx150_0⟩ := Kd.at_int (Kd.R_reads' HO_4.out).2.2 ((rd_T40 l0_1 x24_1).f7) p150 q150; obtain rfl : (⟨go21, 0, none⟩ : Addr) = ad150 := (by injection e150); (first | simp only [add_plain] at hx150_0 | simp only [add_at] at hx150_0 | simp only [Addr.add, Nat.zero_add] at hx150_0 | skip); replace p150 := eq_true p150; replace q150 := eq_true q150; have p24 : 0 ≤ (((rd_T40 l0_1 x24_1).f7) : Int) := of_decide_eq_true ka; have q24 : (((rd_T40 l0_1 x24_1).f7) : Int) < ((x4_1.length : Int) : Int) := of_decide_eq_true ka; obtain ⟨hx24_0, hf24_0⟩ := Kd.R_celln 0 HO_4.out (((rd_T40 l0_1 x24_1).f7) : Int) p24 q24; replace p24 := eq_true p24; replace q24 := eq_true q24; obtain ⟨hy37_, hz37_⟩ := Kd.R_celln 0 HO_4.out (((rd_T40 l0_1 x24_1).f7) : Int) (of_decide_eq_true ka) (of_decide_eq_true ka); have HP37 := Kd.R_putg HO_4.out (((rd_T40 l0_1 x24_1).f7) : Int) (wrap64 ((rd y149 ((rd_T40 l0_1 x24_1).f7)) + 1))) | ((with_reducible refine gate_store (t := 3) (p := 51) rfl ?_); refine store_event (t := 3) (p := 51) (v := ?vo_w38) (w1 := (w35.setCell ⟨go21, (((rd_T40 l0_1 x24_1).f7) : Int).toNat, none⟩ (.int .i64 (wrap64 ((rd y149 ((rd_T40 l0_1 x24_1).f7)) + 1))))) ?hg ?ho ?hn ?hr ?_; (case ho => rfl); (case hg => rfl); (case hn => rfl); (case hr => first | (go_simp; done) | (go_simp; rfl)); intro w38 hw; have hg : w35.grownBy w38 (some go21) := (by rw [hw]; exact HP37.2); have hp_ : Kd.R (Kd.int .i64) 3 w38 w.heap.size (fun _ => True) (.slice (some ⟨go21, 0, none⟩) x4_1.length co33) y151 := (by rw [hw, Ny151.out]; exact HP37.1); clear HP37; have n0_ := Aside0.mk (hp_); have n1_ := Aside0.mk (blk_grown (g := gb140) (o := .cells #[.int .i64 a0_0, .slice (some ad144) l0_1.length c0_1] 33 (0, 0)) (kb BK140) hg (Kd.R_ne HO_4.out BK140.out (by decide))); have n2_ := Aside0.mk (blk_grown (g := gb145) (o := .cells #[.int .u8 ((rd_T40 l0_1 x24_1).f0), .int .i64 ((rd_T40 l0_1 x24_1).f1), .int .i64 ((rd_T40 l0_1 x24_1).f2), .float .f64 ((rd_T40 l0_1 x24_1).f3), .slice A144_4 ((rd_T40 l0_1 x24_1).f4).length c144_4, .int .u8 ((rd_T40 l0_1 x24_1).f5), .int .i64 ((rd_T40 l0_1 x24_1).f6), .int .i64 ((rd_T40 l0_1 x24_1).f7)] 40 (0, 0)) (kb BK145) hg (Kd.R_ne HO_4.out BK145.out (by decide))); have n3_ := Aside0.mk ((by rw [hw]; exact below_set (HB.out) GB21.out : Below w.heap.size w w38)); clear HO_4; clear BK140; clear BK145; clear HB; have HO_4 := n0_; have BK140 := n1_; have BK145 := n2_; have HB := n3_; clear n0_ n1_ n2_ n3_; clear hg hw hp_))
               go_roundg k1
               case measure => have := HK1.out; omega
               case rel => exact ⟨(y151), (wrap64 (x24_1 + 1)), kr, H', ⟨by have := HK1.out; omega⟩, ⟨kR HO_4⟩, ⟨kb BK140⟩, ⟨kB2 HB GE140 GE145⟩⟩
              ·rw [if_neg c23] at H
               exact absurd H (by simp)
             ·rw [if_neg c22] at H
              exact absurd H (by simp)
            ·rw [if_neg c20] at H
             exact absurd H (by simp)
           ·rw [if_neg c19] at H
            exact absurd H (by simp)
          ·replace c18 := Bool.eq_false_iff.mpr c18
           subst c18
           have H1 : (trees_Shape.l0 k1 x4_1 l0_1 (l0_1.length : Int) (wrap64 (x24_1 + 1)) a0_0 l0_1) = some (r1, r2) := by rw [if_neg (show ¬ (false = true) by decide)] at H; exact H
           clear H
           have H := H1
           clear H1
           have H' := Aside0.mk H
           clear H
           have p144 : 0 ≤ (x24_1 : Int) := of_decide_eq_true ka
           have q144 : x24_1 < (l0_1.length : Int) := of_decide_eq_true ka
           obtain ⟨ad144, A144_4, c144_4, e144, hx144_0, hx144_1, hx144_2, hx144_3, hx144_4, hx144_5, hx144_6, hx144_7, hl144_4, hi144_4⟩ := at_T40 HR0_1.out x24_1 p144 q144
           cases e144
           replace hx144_0 := (HB.out.cell (World.block_lt_of_cell? w _ hx144_0)).trans hx144_0
           replace hx144_1 := (HB.out.cell (World.block_lt_of_cell? w _ hx144_1)).trans hx144_1
           replace hx144_2 := (HB.out.cell (World.block_lt_of_cell? w _ hx144_2)).trans hx144_2
           replace hx144_3 := (HB.out.cell (World.block_lt_of_cell? w _ hx144_3)).trans hx144_3
           replace hx144_4 := (HB.out.cell (World.block_lt_of_cell? w _ hx144_4)).trans hx144_4
           replace hx144_5 := (HB.out.cell (World.block_lt_of_cell? w _ hx144_5)).trans hx144_5
           replace hx144_6 := (HB.out.cell (World.block_lt_of_cell? w _ hx144_6)).trans hx144_6
           replace hx144_7 := (HB.out.cell (World.block_lt_of_cell? w _ hx144_7)).trans hx144_7
           have HR144_4 := Aside0.mk hi144_4
           have HC144_4 := Aside0.mk hl144_4
           clear hi144_4 hl144_4
           replace p144 := eq_true p144
           replace q144 := eq_true q144
           go_wp2_with (first | ((with_reducible refine gate_dst (N := 6) rfl ?_); refine box_event ?hg (N := 6) ?hd (cs := #[.int .u8 0, .int .i64 0, .int .i64 0, .float .f64 0, .slice none 0 0, .int .u8 0, .int .i64 0, .int .i64 0]) (t := 40) ?hr ?_; (case hd => rfl); (case hg => rfl); (case hr => first | (go_simp; done) | (go_simp; rfl)); intro gb145 hg w39 hbox hb; have n0_ := Aside0.mk (Kd.R_below (kR HO_4) hb); have n1_ := Aside0.mk (blk_below (g := gb140) (o := .cells #[.int .i64 a0_0, .slice (some ad144) l0_1.length c0_1] 33 (0, 0)) (kb BK140) hb); have n2_ := Aside0.mk (below_step (kB1 HB GE140) hb); have n3_ := Aside0.mk (hbox); have n4_ := Aside0.mk ((kg hg (kB1 HB GE140) : w.heap.size ≤ gb145)); have n5_ := Aside0.mk ((kg hg (kB1 HB GE140) : w.heap.size ≤ gb145)); have n6_ := Aside0.mk ((by rw [hg]; exact Nat.ne_of_lt (blk_lt (g := gb140) (o := .cells #[.int .i64 a0_0, .slice (some ad144) l0_1.length c0_1] 33 (0, 0)) (kb BK140)) : gb140 ≠ gb145)); have n7_ := Aside0.mk ((by rw [hg]; exact Nat.ne_of_gt (blk_lt (g := gb140) (o := .cells #[.int .i64 a0_0, .slice (some ad144) l0_1.length c0_1] 33 (0, 0)) (kb BK140)) : gb145 ≠ gb140)); clear HO_4; clear BK140; clear HB; have HO_4 := n0_; have BK140 := n1_; have HB := n2_; have BK145 := n3_; have GW145 := n4_; have GE145 := n5_; have NB140_145 := n6_; have NB145_140 := n7_; clear n0_ n1_ n2_ n3_ n4_ n5_ n6_ n7_; clear hb hbox hg; have hnb40 := NB145_140.out; have hnc40 := NB140_145.out; have hcz41 := blk8 (w := w39) BK145.out; have hcz42 := blk2 (w := w39) BK140.out) | ((with_reducible refine gate_callee (f := 52) rfl ?_); refine goesL_ (some 33) rfl rfl Tryd.func52 (by kernel_rfl) rfl #[.agg #[.int .u8 ((rd_T40 l0_1 x24_1).f0), .int .i64 ((rd_T40 l0_1 x24_1).f1), .int .i64 ((rd_T40 l0_1 x24_1).f2), .float .f64 ((rd_T40 l0_1 x24_1).f3), .slice A144_4 ((rd_T40 l0_1 x24_1).f4).length c144_4, .int .u8 ((rd_T40 l0_1 x24_1).f5), .int .i64 ((rd_T40 l0_1 x24_1).f6), .int .i64 ((rd_T40 l0_1 x24_1).f7)], .int .i64 (l0_1.length : Int)] rfl (by (try simp only [List.map_toArray, List.map_cons, List.map_nil]); first | done | rfl | (simp only [List.length_drop, List.length_take]; rfl)) ?_; (with_reducible refine (trees_right.calls k1 ((rd_T40 l0_1 x24_1).f0) ((rd_T40 l0_1 x24_1).f1) ((rd_T40 l0_1 x24_1).f2) ((rd_T40 l0_1 x24_1).f3) _ _ ((rd_T40 l0_1 x24_1).f4) ((rd_T40 l0_1 x24_1).f5) ((rd_T40 l0_1 x24_1).f6) ((rd_T40 l0_1 x24_1).f7) (l0_1.length : Int) true _ ?side1 ?side2 A15.out).mono ?_); (case side1 => exact Kd.C_below HR144_4.out (kB2 HB GE140 GE145)); (case side2 => exact HC144_4.out); rintro e w43 ⟨rfl, hb⟩; refine ⟨_, rfl, ?_⟩; have n0_ := Aside0.mk (Kd.R_below (by (with_reducible repeat (first | apply Kd.R_alloc | apply Kd.R_drewN | apply Kd.R_drew)); exact (Kd.R_mono (Kd.R_far (p := ⟨gb145, 7, none⟩) (Kd.R_far (p := ⟨gb145, 6, none⟩) (Kd.R_far (p := ⟨gb145, 5, none⟩) (Kd.R_far (p := ⟨gb145, 4, none⟩) (Kd.R_far (p := ⟨gb145, 3, none⟩) (Kd.R_far (p := ⟨gb145, 2, none⟩) (Kd.R_far (p := ⟨gb145, 1, none⟩) (Kd.R_far (p := ⟨gb145, 0, none⟩) (Kd.R_types HO_4.out BK145.out (by decide)) (fun _ hk => hk.2) (.int .u8 ((rd_T40 l0_1 x24_1).f0))) (fun _ hk => hk.2) (.int .i64 ((rd_T40 l0_1 x24_1).f1))) (fun _ hk => hk.2) (.int .i64 ((rd_T40 l0_1 x24_1).f2))) (fun _ hk => hk.2) (.float .f64 ((rd_T40 l0_1 x24_1).f3))) (fun _ hk => hk.2) (.slice A144_4 ((rd_T40 l0_1 x24_1).f4).length c144_4)) (fun _ hk => hk.2) (.int .u8 ((rd_T40 l0_1 x24_1).f5))) (fun _ hk => hk.2) (.int .i64 ((rd_T40 l0_1 x24_1).f6))) (fun _ hk => hk.2) (.int .i64 ((rd_T40 l0_1 x24_1).f7))) (fun _ h_ => h_.1))) hb); have n1_ := Aside0.mk (blk_below (g := gb140) (o := .cells #[.int .i64 a0_0, .slice (some ad144) l0_1.length c0_1] 33 (0, 0)) (by (with_reducible repeat (first | refine blk_drewN ?_ _ | refine blk_drew ?_ | refine blk_alloc ?_ _)); refine blk_far ?_ NB140_145.out _; (with_reducible repeat (first | refine blk_drewN ?_ _ | refine blk_drew ?_ | refine blk_alloc ?_ _)); refine blk_far ?_ NB140_145.out _; (with_reducible repeat (first | refine blk_drewN ?_ _ | refine blk_drew ?_ | refine blk_alloc ?_ _)); refine blk_far ?_ NB140_145.out _; (with_reducible repeat (first | refine blk_drewN ?_ _ | refine blk_drew ?_ | refine blk_alloc ?_ _)); refine blk_far ?_ NB140_145.out _; (with_reducible repeat (first | refine blk_drewN ?_ _ | refine blk_drew ?_ | refine blk_alloc ?_ _)); refine blk_far ?_ NB140_145.out _; (with_reducible repeat (first | refine blk_drewN ?_ _ | refine blk_drew ?_ | refine blk_alloc ?_ _)); refine blk_far ?_ NB140_145.out _; (with_reducible repeat (first | refine blk_drewN ?_ _ | refine blk_drew ?_ | refine blk_alloc ?_ _)); refine blk_far ?_ NB140_145.out _; (with_reducible repeat (first | refine blk_drewN ?_ _ | refine blk_drew ?_ | refine blk_alloc ?_ _)); refine blk_far ?_ NB140_145.out _; (with_reducible repeat (first | refine blk_drewN ?_ _ | refine blk_drew ?_ | refine blk_alloc ?_ _)); exact BK140.out) hb); have n2_ := Aside0.mk (blk_below (g := gb145) (o := .cells #[.int .u8 ((rd_T40 l0_1 x24_1).f0), .int .i64 ((rd_T40 l0_1 x24_1).f1), .int .i64 ((rd_T40 l0_1 x24_1).f2), .float .f64 ((rd_T40 l0_1 x24_1).f3), .slice A144_4 ((rd_T40 l0_1 x24_1).f4).length c144_4, .int .u8 ((rd_T40 l0_1 x24_1).f5), .int .i64 ((rd_T40 l0_1 x24_1).f6), .int .i64 ((rd_T40 l0_1 x24_1).f7)] 40 (0, 0)) (by (with_reducible repeat (first | refine blk_drewN ?_ _ | refine blk_drew ?_ | refine blk_alloc ?_ _)); refine blk_put (cs := #[.int .u8 ((rd_T40 l0_1 x24_1).f0), .int .i64 ((rd_T40 l0_1 x24_1).f1), .int .i64 ((rd_T40 l0_1 x24_1).f2), .float .f64 ((rd_T40 l0_1 x24_1).f3), .slice A144_4 ((rd_T40 l0_1 x24_1).f4).length c144_4, .int .u8 ((rd_T40 l0_1 x24_1).f5), .int .i64 ((rd_T40 l0_1 x24_1).f6), .int .i64 0]) ?_ 7 _ rfl; (with_reducible repeat (first | refine blk_drewN ?_ _ | refine blk_drew ?_ | refine blk_alloc ?_ _)); refine blk_put (cs := #[.int .u8 ((rd_T40 l0_1 x24_1).f0), .int .i64 ((rd_T40 l0_1 x24_1).f1), .int .i64 ((rd_T40 l0_1 x24_1).f2), .float .f64 ((rd_T40 l0_1 x24_1).f3), .slice A144_4 ((rd_T40 l0_1 x24_1).f4).length c144_4, .int .u8 ((rd_T40 l0_1 x24_1).f5), .int .i64 0, .int .i64 0]) ?_ 6 _ rfl; (with_reducible repeat (first | refine blk_drewN ?_ _ | refine blk_drew ?_ | refine blk_alloc ?_ _)); refine blk_put (cs := #[.int .u8 ((rd_T40 l0_1 x24_1).f0), .int .i64 ((rd_T40 l0_1 x24_1).f1), .int .i64 ((rd_T40 l0_1 x24_1).f2), .float .f64 ((rd_T40 l0_1 x24_1).f3), .slice A144_4 ((rd_T40 l0_1 x24_1).f4).length c144_4, .int .u8 0, .int .i64 0, .int .i64 0]) ?_ 5 _ rfl; (with_reducible repeat (first | refine blk_drewN ?_ _ | refine blk_drew ?_ | refine blk_alloc ?_ _)); refine blk_put (cs := #[.int .u8 ((rd_T40 l0_1 x24_1).f0), .int .i64 ((rd_T40 l0_1 x24_1).f1), .int .i64 ((rd_T40 l0_1 x24_1).f2), .float .f64 ((rd_T40 l0_1 x24_1).f3), .slice none 0 0, .int .u8 0, .int .i64 0, .int .i64 0]) ?_ 4 _ rfl; (with_reducible repeat (first | refine blk_drewN ?_ _ | refine blk_drew ?_ | refine blk_alloc ?_ _)); refine blk_put (cs := #[.int .u8 ((rd_T40 l0_1 x24_1).f0), .int .i64 ((rd_T40 l0_1 x24_1).f1), .int .i64 ((rd_T40 l0_1 x24_1).f2), .float .f64 0, .slice none 0 0, .int .u8 0, .int .i64 0, .int .i64 0]) ?_ 3 _ rfl; (with_reducible repeat (first | refine blk_drewN ?_ _ | refine blk_drew ?_ | refine blk_alloc ?_ _)); refine blk_put (cs := #[.int .u8 ((rd_T40 l0_1 x24_1).f0), .int .i64 ((rd_T40 l0_1 x24_1).f1), .int .i64 0, .float .f64 0, .slice none 0 0, .int .u8 0, .int .i64 0, .int .i64 0]) ?_ 2 _ rfl; (with_reducible repeat (first | refine blk_drewN ?_ _ | refine blk_drew ?_ | refine blk_alloc ?_ _)); refine blk_put (cs := #[.int .u8 ((rd_T40 l0_1 x24_1).f0), .int .i64 0, .int .i64 0, .float .f64 0, .slice none 0 0, .int .u8 0, .int .i64 0, .int .i64 0]) ?_ 1 _ rfl; (with_reducible repeat (first | refine blk_drewN ?_ _ | refine blk_drew ?_ | refine blk_alloc ?_ _)); refine blk_put (cs := #[.int .u8 0, .int .i64 0, .int .i64 0, .float .f64 0, .slice none 0 0, .int .u8 0, .int .i64 0, .int .i64 0]) ?_ 0 _ rfl; (with_reducible repeat (first | refine blk_drewN ?_ _ | refine blk_drew ?_ | refine blk_alloc ?_ _)); exact BK145.out) hb); have n3_ := Aside0.mk (below_step (kB2 HB GE140 GE145) hb); clear HO_4; clear BK140; clear BK145; clear HB; have HO_4 := n0_; have BK140 := n1_; have BK145 := n2_; have HB := n3_; clear n0_ n1_ n2_ n3_; (try clear hb); (try clear hb2); (try clear hk); (try clear hi); have hcz44 := blk8 (w := w43) BK145.out) | ((with_reducible refine gate_callee (f := 53) rfl ?_); refine goesL_ (some 37) rfl rfl Tryd.func53 (by kernel_rfl) rfl #[.agg #[.int .u8 ((rd_T40 l0_1 x24_1).f0), .int .i64 ((rd_T40 l0_1 x24_1).f1), .int .i64 ((rd_T40 l0_1 x24_1).f2), .float .f64 ((rd_T40 l0_1 x24_1).f3), .slice A144_4 ((rd_T40 l0_1 x24_1).f4).length c144_4, .int .u8 ((rd_T40 l0_1 x24_1).f5), .int .i64 ((rd_T40 l0_1 x24_1).f6), .int .i64 ((rd_T40 l0_1 x24_1).f7)]] rfl (by (try simp only [List.map_toArray, List.map_cons, List.map_nil]); first | done | rfl | (simp only [List.length_drop, List.length_take]; rfl)) ?_; (with_reducible refine (trees_inner.calls ((rd_T40 l0_1 x24_1).f0) ((rd_T40 l0_1 x24_1).f1) ((rd_T40 l0_1 x24_1).f2) ((rd_T40 l0_1 x24_1).f3) _ _ ((rd_T40 l0_1 x24_1).f4) ((rd_T40 l0_1 x24_1).f5) ((rd_T40 l0_1 x24_1).f6) ((rd_T40 l0_1 x24_1).f7) false _ ?side1 ?side2 A17.out).mono ?_); (case side1 => repeat (first | exact (Kd.C_below HR144_4.out HB.out) | (with_reducible refine Kd.C_alloc ?_ _) | (with_reducible refine Kd.C_drewN ?_ _) | (with_reducible refine Kd.C_drew ?_))); (case side2 => exact HC144_4.out); rintro e w45 ⟨rfl, hb⟩; refine ⟨_, rfl, ?_⟩; have n0_ := Aside0.mk (Kd.R_below (kR HO_4) hb); have n1_ := Aside0.mk (blk_below (g := gb140) (o := .cells #[.int .i64 a0_0, .slice (some ad144) l0_1.length c0_1] 33 (0, 0)) (kb BK140) hb); have n2_ := Aside0.mk (blk_below (g := gb145) (o := .cells #[.int .u8 ((rd_T40 l0_1 x24_1).f0), .int .i64 ((rd_T40 l0_1 x24_1).f1), .int .i64 ((rd_T40 l0_1 x24_1).f2), .float .f64 ((rd_T40 l0_1 x24_1).f3), .slice A144_4 ((rd_T40 l0_1 x24_1).f4).length c144_4, .int .u8 ((rd_T40 l0_1 x24_1).f5), .int .i64 ((rd_T40 l0_1 x24_1).f6), .int .i64 ((rd_T40 l0_1 x24_1).f7)] 40 (0, 0)) (kb BK145) hb); have n3_ := Aside0.mk (below_step (kB2 HB GE140 GE145) hb); clear HO_4; clear BK140; clear BK145; clear HB; have HO_4 := n0_; have BK140 := n1_; have BK145 := n2_; have HB := n3_; clear n0_ n1_ n2_ n3_; (try clear hb); (try clear hb2); (try clear hk); (try clear hi)))
           go_roundg k1
           case measure => have := HK1.out; omega
           case rel => exact ⟨(x4_1), (wrap64 (x24_1 + 1)), kr, H', ⟨by have := HK1.out; omega⟩, ⟨kR HO_4⟩, ⟨kb BK140⟩, ⟨kB2 HB GE140 GE145⟩⟩
         ·replace c16 := Bool.eq_false_iff.mpr c16
          subst c16
          have H1 : (some (71, x24_1)) = some (r1, r2) := by rw [if_neg (show ¬ (false = true) by decide)] at H; exact H
          clear H
          have H := H1
          clear H1
          simp only [Option.some.injEq, Prod.mk.injEq] at H
          obtain ⟨rfl, rfl⟩ := H
          have p144 : 0 ≤ (x24_1 : Int) := of_decide_eq_true ka
          have q144 : x24_1 < (l0_1.length : Int) := of_decide_eq_true ka
          obtain ⟨ad144, A144_4, c144_4, e144, hx144_0, hx144_1, hx144_2, hx144_3, hx144_4, hx144_5, hx144_6, hx144_7, hl144_4, hi144_4⟩ := at_T40 HR0_1.out x24_1 p144 q144
          cases e144
          replace hx144_0 := (HB.out.cell (World.block_lt_of_cell? w _ hx144_0)).trans hx144_0
          replace hx144_1 := (HB.out.cell (World.block_lt_of_cell? w _ hx144_1)).trans hx144_1
          replace hx144_2 := (HB.out.cell (World.block_lt_of_cell? w _ hx144_2)).trans hx144_2
          replace hx144_3 := (HB.out.cell (World.block_lt_of_cell? w _ hx144_3)).trans hx144_3
          replace hx144_4 := (HB.out.cell (World.block_lt_of_cell? w _ hx144_4)).trans hx144_4
          replace hx144_5 := (HB.out.cell (World.block_lt_of_cell? w _ hx144_5)).trans hx144_5
          replace hx144_6 := (HB.out.cell (World.block_lt_of_cell? w _ hx144_6)).trans hx144_6
          replace hx144_7 := (HB.out.cell (World.block_lt_of_cell? w _ hx144_7)).trans hx144_7
          have HR144_4 := Aside0.mk hi144_4
          have HC144_4 := Aside0.mk hl144_4
          clear hi144_4 hl144_4
          replace p144 := eq_true p144
          replace q144 := eq_true q144
          go_wp2_with (first | ((with_reducible refine gate_dst (N := 6) rfl ?_); refine box_event ?hg (N := 6) ?hd (cs := #[.int .u8 0, .int .i64 0, .int .i64 0, .float .f64 0, .slice none 0 0, .int .u8 0, .int .i64 0, .int .i64 0]) (t := 40) ?hr ?_; (case hd => rfl); (case hg => rfl); (case hr => first | (go_simp; done) | (go_simp; rfl)); intro gb145 hg w46 hbox hb; have n0_ := Aside0.mk (Kd.R_below (kR HO_4) hb); have n1_ := Aside0.mk (blk_below (g := gb140) (o := .cells #[.int .i64 a0_0, .slice (some ad144) l0_1.length c0_1] 33 (0, 0)) (kb BK140) hb); have n2_ := Aside0.mk (below_step (kB1 HB GE140) hb); have n3_ := Aside0.mk (hbox); have n4_ := Aside0.mk ((kg hg (kB1 HB GE140) : w.heap.size ≤ gb145)); have n5_ := Aside0.mk ((kg hg (kB1 HB GE140) : w.heap.size ≤ gb145)); have n6_ := Aside0.mk ((by rw [hg]; exact Nat.ne_of_lt (blk_lt (g := gb140) (o := .cells #[.int .i64 a0_0, .slice (some ad144) l0_1.length c0_1] 33 (0, 0)) (kb BK140)) : gb140 ≠ gb145)); have n7_ := Aside0.mk ((by rw [hg]; exact Nat.ne_of_gt (blk_lt (g := gb140) (o := .cells #[.int .i64 a0_0, .slice (some ad144) l0_1.length c0_1] 33 (0, 0)) (kb BK140)) : gb145 ≠ gb140)); clear HO_4; clear BK140; clear HB; have HO_4 := n0_; have BK140 := n1_; have HB := n2_; have BK145 := n3_; have GW145 := n4_; have GE145 := n5_; have NB140_145 := n6_; have NB145_140 := n7_; clear n0_ n1_ n2_ n3_ n4_ n5_ n6_ n7_; clear hb hbox hg; have hnb47 := NB145_140.out; have hnc47 := NB140_145.out; have hcz48 := blk8 (w := w46) BK145.out; have hcz49 := blk2 (w := w46) BK140.out) | ((with_reducible refine gate_callee (f := 52) rfl ?_); refine goesL_ (some 33) rfl rfl Tryd.func52 (by kernel_rfl) rfl #[.agg #[.int .u8 ((rd_T40 l0_1 x24_1).f0), .int .i64 ((rd_T40 l0_1 x24_1).f1), .int .i64 ((rd_T40 l0_1 x24_1).f2), .float .f64 ((rd_T40 l0_1 x24_1).f3), .slice A144_4 ((rd_T40 l0_1 x24_1).f4).length c144_4, .int .u8 ((rd_T40 l0_1 x24_1).f5), .int .i64 ((rd_T40 l0_1 x24_1).f6), .int .i64 ((rd_T40 l0_1 x24_1).f7)], .int .i64 (l0_1.length : Int)] rfl (by (try simp only [List.map_toArray, List.map_cons, List.map_nil]); first | done | rfl | (simp only [List.length_drop, List.length_take]; rfl)) ?_; (with_reducible refine (trees_right.calls k1 ((rd_T40 l0_1 x24_1).f0) ((rd_T40 l0_1 x24_1).f1) ((rd_T40 l0_1 x24_1).f2) ((rd_T40 l0_1 x24_1).f3) _ _ ((rd_T40 l0_1 x24_1).f4) ((rd_T40 l0_1 x24_1).f5) ((rd_T40 l0_1 x24_1).f6) ((rd_T40 l0_1 x24_1).f7) (l0_1.length : Int) false _ ?side1 ?side2 A15.out).mono ?_); (case side1 => exact Kd.C_below HR144_4.out (kB2 HB GE140 GE145)); (case side2 => exact HC144_4.out); rintro e w50 ⟨rfl, hb⟩; refine ⟨_, rfl, ?_⟩; have n0_ := Aside0.mk (Kd.R_below (by (with_reducible repeat (first | apply Kd.R_alloc | apply Kd.R_drewN | apply Kd.R_drew)); exact (Kd.R_mono (Kd.R_far (p := ⟨gb145, 7, none⟩) (Kd.R_far (p := ⟨gb145, 6, none⟩) (Kd.R_far (p := ⟨gb145, 5, none⟩) (Kd.R_far (p := ⟨gb145, 4, none⟩) (Kd.R_far (p := ⟨gb145, 3, none⟩) (Kd.R_far (p := ⟨gb145, 2, none⟩) (Kd.R_far (p := ⟨gb145, 1, none⟩) (Kd.R_far (p := ⟨gb145, 0, none⟩) (Kd.R_types HO_4.out BK145.out (by decide)) (fun _ hk => hk.2) (.int .u8 ((rd_T40 l0_1 x24_1).f0))) (fun _ hk => hk.2) (.int .i64 ((rd_T40 l0_1 x24_1).f1))) (fun _ hk => hk.2) (.int .i64 ((rd_T40 l0_1 x24_1).f2))) (fun _ hk => hk.2) (.float .f64 ((rd_T40 l0_1 x24_1).f3))) (fun _ hk => hk.2) (.slice A144_4 ((rd_T40 l0_1 x24_1).f4).length c144_4)) (fun _ hk => hk.2) (.int .u8 ((rd_T40 l0_1 x24_1).f5))) (fun _ hk => hk.2) (.int .i64 ((rd_T40 l0_1 x24_1).f6))) (fun _ hk => hk.2) (.int .i64 ((rd_T40 l0_1 x24_1).f7))) (fun _ h_ => h_.1))) hb); have n1_ := Aside0.mk (blk_below (g := gb140) (o := .cells #[.int .i64 a0_0, .slice (some ad144) l0_1.length c0_1] 33 (0, 0)) (by (with_reducible repeat (first | refine blk_drewN ?_ _ | refine blk_drew ?_ | refine blk_alloc ?_ _)); refine blk_far ?_ NB140_145.out _; (with_reducible repeat (first | refine blk_drewN ?_ _ | refine blk_drew ?_ | refine blk_alloc ?_ _)); refine blk_far ?_ NB140_145.out _; (with_reducible repeat (first | refine blk_drewN ?_ _ | refine blk_drew ?_ | refine blk_alloc ?_ _)); refine blk_far ?_ NB140_145.out _; (with_reducible repeat (first | refine blk_drewN ?_ _ | refine blk_drew ?_ | refine blk_alloc ?_ _)); refine blk_far ?_ NB140_145.out _; (with_reducible repeat (first | refine blk_drewN ?_ _ | refine blk_drew ?_ | refine blk_alloc ?_ _)); refine blk_far ?_ NB140_145.out _; (with_reducible repeat (first | refine blk_drewN ?_ _ | refine blk_drew ?_ | refine blk_alloc ?_ _)); refine blk_far ?_ NB140_145.out _; (with_reducible repeat (first | refine blk_drewN ?_ _ | refine blk_drew ?_ | refine blk_alloc ?_ _)); refine blk_far ?_ NB140_145.out _; (with_reducible repeat (first | refine blk_drewN ?_ _ | refine blk_drew ?_ | refine blk_alloc ?_ _)); refine blk_far ?_ NB140_145.out _; (with_reducible repeat (first | refine blk_drewN ?_ _ | refine blk_drew ?_ | refine blk_alloc ?_ _)); exact BK140.out) hb); have n2_ := Aside0.mk (blk_below (g := gb145) (o := .cells #[.int .u8 ((rd_T40 l0_1 x24_1).f0), .int .i64 ((rd_T40 l0_1 x24_1).f1), .int .i64 ((rd_T40 l0_1 x24_1).f2), .float .f64 ((rd_T40 l0_1 x24_1).f3), .slice A144_4 ((rd_T40 l0_1 x24_1).f4).length c144_4, .int .u8 ((rd_T40 l0_1 x24_1).f5), .int .i64 ((rd_T40 l0_1 x24_1).f6), .int .i64 ((rd_T40 l0_1 x24_1).f7)] 40 (0, 0)) (by (with_reducible repeat (first | refine blk_drewN ?_ _ | refine blk_drew ?_ | refine blk_alloc ?_ _)); refine blk_put (cs := #[.int .u8 ((rd_T40 l0_1 x24_1).f0), .int .i64 ((rd_T40 l0_1 x24_1).f1), .int .i64 ((rd_T40 l0_1 x24_1).f2), .float .f64 ((rd_T40 l0_1 x24_1).f3), .slice A144_4 ((rd_T40 l0_1 x24_1).f4).length c144_4, .int .u8 ((rd_T40 l0_1 x24_1).f5), .int .i64 ((rd_T40 l0_1 x24_1).f6), .int .i64 0]) ?_ 7 _ rfl; (with_reducible repeat (first | refine blk_drewN ?_ _ | refine blk_drew ?_ | refine blk_alloc ?_ _)); refine blk_put (cs := #[.int .u8 ((rd_T40 l0_1 x24_1).f0), .int .i64 ((rd_T40 l0_1 x24_1).f1), .int .i64 ((rd_T40 l0_1 x24_1).f2), .float .f64 ((rd_T40 l0_1 x24_1).f3), .slice A144_4 ((rd_T40 l0_1 x24_1).f4).length c144_4, .int .u8 ((rd_T40 l0_1 x24_1).f5), .int .i64 0, .int .i64 0]) ?_ 6 _ rfl; (with_reducible repeat (first | refine blk_drewN ?_ _ | refine blk_drew ?_ | refine blk_alloc ?_ _)); refine blk_put (cs := #[.int .u8 ((rd_T40 l0_1 x24_1).f0), .int .i64 ((rd_T40 l0_1 x24_1).f1), .int .i64 ((rd_T40 l0_1 x24_1).f2), .float .f64 ((rd_T40 l0_1 x24_1).f3), .slice A144_4 ((rd_T40 l0_1 x24_1).f4).length c144_4, .int .u8 0, .int .i64 0, .int .i64 0]) ?_ 5 _ rfl; (with_reducible repeat (first | refine blk_drewN ?_ _ | refine blk_drew ?_ | refine blk_alloc ?_ _)); refine blk_put (cs := #[.int .u8 ((rd_T40 l0_1 x24_1).f0), .int .i64 ((rd_T40 l0_1 x24_1).f1), .int .i64 ((rd_T40 l0_1 x24_1).f2), .float .f64 ((rd_T40 l0_1 x24_1).f3), .slice none 0 0, .int .u8 0, .int .i64 0, .int .i64 0]) ?_ 4 _ rfl; (with_reducible repeat (first | refine blk_drewN ?_ _ | refine blk_drew ?_ | refine blk_alloc ?_ _)); refine blk_put (cs := #[.int .u8 ((rd_T40 l0_1 x24_1).f0), .int .i64 ((rd_T40 l0_1 x24_1).f1), .int .i64 ((rd_T40 l0_1 x24_1).f2), .float .f64 0, .slice none 0 0, .int .u8 0, .int .i64 0, .int .i64 0]) ?_ 3 _ rfl; (with_reducible repeat (first | refine blk_drewN ?_ _ | refine blk_drew ?_ | refine blk_alloc ?_ _)); refine blk_put (cs := #[.int .u8 ((rd_T40 l0_1 x24_1).f0), .int .i64 ((rd_T40 l0_1 x24_1).f1), .int .i64 0, .float .f64 0, .slice none 0 0, .int .u8 0, .int .i64 0, .int .i64 0]) ?_ 2 _ rfl; (with_reducible repeat (first | refine blk_drewN ?_ _ | refine blk_drew ?_ | refine blk_alloc ?_ _)); refine blk_put (cs := #[.int .u8 ((rd_T40 l0_1 x24_1).f0), .int .i64 0, .int .i64 0, .float .f64 0, .slice none 0 0, .int .u8 0, .int .i64 0, .int .i64 0]) ?_ 1 _ rfl; (with_reducible repeat (first | refine blk_drewN ?_ _ | refine blk_drew ?_ | refine blk_alloc ?_ _)); refine blk_put (cs := #[.int .u8 0, .int .i64 0, .int .i64 0, .float .f64 0, .slice none 0 0, .int .u8 0, .int .i64 0, .int .i64 0]) ?_ 0 _ rfl; (with_reducible repeat (first | refine blk_drewN ?_ _ | refine blk_drew ?_ | refine blk_alloc ?_ _)); exact BK145.out) hb); have n3_ := Aside0.mk (below_step (kB2 HB GE140 GE145) hb); clear HO_4; clear BK140; clear BK145; clear HB; have HO_4 := n0_; have BK140 := n1_; have BK145 := n2_; have HB := n3_; clear n0_ n1_ n2_ n3_; (try clear hb); (try clear hb2); (try clear hk); (try clear hi)))
          go_ret2
          exact ⟨by first | rfl | (simp [errW_none, errW_some] <;> rfl) | (simp [*, errW_none, errW_some] <;> rfl), kB2 HB GE140 GE145⟩
        ·rw [if_neg c14] at H
         exact absurd H (by simp)
       ·rw [if_neg c13] at H
        exact absurd H (by simp)
      ·rw [if_neg c12] at H
       have c12b0 : decide (x24_1 < (l0_1.length : Int)) = false := decide_eq_false c12
       clear c12
       by_cases c51 : 0 ≤ (l0_1.length : Int)
       ·rw [if_pos c51] at H
        have c51b0 := eq_true c51
        have c51b1 : decide (0 ≤ (l0_1.length : Int)) = true := decide_eq_true c51
        clear c51
        by_cases c52 : ((l0_1.length : Int) : Int).toNat ≤ 281474976710656
        ·rw [if_pos c52] at H
         have c52b0 := eq_true c52
         have c52b1 : decide (((l0_1.length : Int) : Int).toNat ≤ 281474976710656) = true := decide_eq_true c52
         clear c52
         obtain ⟨y152, hy152⟩ : ∃ y_ : List Bool, y_ = (List.replicate ((l0_1.length : Int) : Int).toNat false) := ⟨_, rfl⟩
         replace H : (trees_Shape.l1 k1 x4_1 y152 (([0] : List Int)) a0_0 l0_1) = some (r1, r2) := by first | (rw [hy152]; with_reducible exact H) | (have H2_ := (Option.bind_some _ _).symm.trans H; rw [hy152]; with_reducible exact H2_) | (have H2_ := (Option.bind_some _ _).symm.trans H; with_reducible exact H2_) | with_reducible exact H | (rw [hy152]; exact H) | exact H
         have Ny152 := Aside0.mk hy152
         clear hy152
         obtain ⟨y155, hy155⟩ : ∃ y_ : List Int, y_ = (([0] : List Int)) := ⟨_, rfl⟩
         replace H : (trees_Shape.l1 k1 x4_1 y152 y155 a0_0 l0_1) = some (r1, r2) := by first | (rw [hy155]; with_reducible exact H) | (have H2_ := (Option.bind_some _ _).symm.trans H; rw [hy155]; with_reducible exact H2_) | (have H2_ := (Option.bind_some _ _).symm.trans H; with_reducible exact H2_) | with_reducible exact H | (rw [hy155]; exact H) | exact H
         have Ny155 := Aside0.mk hy155
         clear hy155
         have H' := Aside0.mk H
         clear H
         have hcz53 := blk2 (w := wr) BK140.out
         go_wp2_with (first | ((with_reducible refine gate_dst (N := 56) rfl ?_); refine Kd.R_make Kd.bool _ 4 rfl (N := 56) rfl 84 _ _ rfl (l0_1.length : Int) rfl rfl Tryd.underlying84 (.bool false) 1 info4 rfl (by decide) (by omega) false (ok := fun _ => True) (okp := fun _ => True) rfl (fun _ hk => hk) trivial (of_decide_eq_true ka) (Nat.le_trans (Nat.mul_le_mul_right _ (of_decide_eq_true ka : (l0_1.length : Int).toNat ≤ 281474976710656)) (by omega)) (Below.refl _ _) (Nat.le_refl _) ?_; intro v153 w54 ho55 hb hg_ hnew_; clear hg_ hnew_; (first | rw [← Ny152.out] at ho55 | (simp only [Int.reduceToNat] at ho55; rw [← Ny152.out] at ho55)); have n0_ := Aside0.mk (Kd.R_below (kR HO_4) hb); have n1_ := Aside0.mk (Kd.R_lower ho55 (below_size (kB1 HB GE140))); have n2_ := Aside0.mk (blk_below (g := gb140) (o := .cells #[.int .i64 a0_0, .slice A0_1 l0_1.length c0_1] 33 (0, 0)) (kb BK140) hb); have n3_ := Aside0.mk (below_step (kB1 HB GE140) hb); clear HO_4; clear BK140; clear HB; have HO_4 := n0_; have HO154 := n1_; have BK140 := n2_; have HB := n3_; clear n0_ n1_ n2_ n3_; clear hb ho55) | ((with_reducible refine gate_dst (N := 57) rfl ?_); refine Kd.R_lit (Kd.int .i64) _ 3 ?hg (N := 57) ?hd (xs := ([0] : List Int)) (inner := [.int .i64 0]) (ok := fun _ => True) (okp := fun _ => True) ?hr ?hp (fun _ hk => hk) trivial (Below.refl _ _) (Nat.le_refl _) (by simp) ?_; (case hd => rfl); (case hg => rfl); (case hr => first | (go_simp; done) | (go_simp; rfl)); (case hp => exact (Reps.one (show Kd.M (Kd.int .i64) _ _ _ 0 [.int .i64 0] from rfl) (Reps.none _ _))); intro v156 w56 ho57 hb hg_ hnew_; clear hg_ hnew_; (first | rw [← Ny155.out] at ho57 | (simp only [Int.reduceToNat] at ho57; rw [← Ny155.out] at ho57)); have n0_ := Aside0.mk (Kd.R_elder' (kR HO_4) (Kd.R_base ho57) hb); have n1_ := Aside0.mk (Kd.R_below (kR HO154) hb); have n2_ := Aside0.mk (Kd.R_lower (Kd.R_new' ho57 (Kd.R_lt (kR HO_4))) (below_size (kB1 HB GE140))); have n3_ := Aside0.mk (blk_below (g := gb140) (o := .cells #[.int .i64 a0_0, .slice A0_1 l0_1.length c0_1] 33 (0, 0)) (kb BK140) hb); have n4_ := Aside0.mk (below_step (kB1 HB GE140) hb); clear HO_4; clear HO154; clear BK140; clear HB; have HO_4 := n0_; have HO154 := n1_; have HO157 := n2_; have BK140 := n3_; have HB := n4_; clear n0_ n1_ n2_ n3_ n4_; clear hb ho57))
         go_loopg [8] k1 (fun kq v8 w' => ∃ (x7_2 : List Bool) (x8_2 : List Int), Aside0 (trees_Shape.l1 kq x4_1 x7_2 x8_2 a0_0 l0_1 = some (r1, r2)) ∧ Aside0 (kq ≤ k1) ∧ Aside0 (Kd.R (Kd.int .i64) 3 w' w.heap.size (fun k_ => some k_ ≠ (v8 : Value).ownBlock) v142 x4_1) ∧ Aside0 (Kd.R Kd.bool 4 w' w.heap.size (fun _ => True) v153 x7_2) ∧ Aside0 (Kd.R (Kd.int .i64) 3 w' w.heap.size (fun k_ => some k_ ≠ (v142 : Value).ownBlock) v8 x8_2) ∧ Aside0 (w'.heap[gb140]? = some (.cells #[.int .i64 a0_0, (.slice A0_1 l0_1.length c0_1)] 33 (0, 0))) ∧ Aside0 (Below w.heap.size w w'))
         case atStart => exact ⟨(y152), (y155), H', ⟨Nat.le_refl _⟩, ⟨by (with_reducible repeat (first | apply Kd.R_alloc | apply Kd.R_drewN | apply Kd.R_drew)); exact Kd.R_mono HO_4.out (fun _ hk => hk.2)⟩, ⟨kR HO154⟩, ⟨by (with_reducible repeat (first | apply Kd.R_alloc | apply Kd.R_drewN | apply Kd.R_drew)); exact Kd.R_mono HO157.out (fun _ hk => hk.2)⟩, ⟨kb BK140⟩, ⟨kB1 HB GE140⟩⟩
         case round =>
          clear H'
          try clear c1
          try clear p1
          try clear q1
          try clear hx1
          try clear c2
          try clear c2b0
          try clear c2b1
          try clear c2b2
          try clear p2
          try clear q2
          try clear hx2
          try clear hf2
          try clear c3
          try clear c4
          try clear c5
          try clear c5b0
          try clear c5b1
          try clear c6
          try clear c6b0
          try clear c6b1
          try clear p6
          try clear c12
          try clear c12b0
          try clear c13
          try clear c13b0
          try clear c14
          try clear c14b0
          try clear p14
          try clear q14
          try clear hx14
          try clear p15
          try clear q15
          try clear hx15
          try clear c16
          try clear c18
          try clear c19
          try clear c19b0
          try clear c20
          try clear c20b0
          try clear p21
          try clear q21
          try clear hx21
          try clear hf21
          try clear c22
          try clear c22b0
          try clear c23
          try clear c23b0
          try clear p24
          try clear q24
          try clear hx24
          try clear hf24
          try clear c26
          try clear c39
          try clear c40
          try clear c47
          try clear c51
          try clear c51b0
          try clear c51b1
          try clear c52
          try clear c52b0
          try clear c52b1
          try clear c53
          try clear hcz11
          try clear hcz27
          try clear hcz28
          try clear hcz30
          try clear hcz32
          try clear hcz36
          try clear hcz41
          try clear hcz42
          try clear hcz44
          try clear hcz48
          try clear hcz49
          try clear hcz4
          try clear hcz53
          try clear hcz8
          try clear hx144_0
          try clear hx144_1
          try clear hx144_2
          try clear hx144_3
          try clear hx144_4
          try clear hx144_5
          try clear hx144_6
          try clear hx144_7
          try clear hx148_0
          try clear hx150_0
          try clear hx21_0
          try clear hx24_0
          try clear p144
          try clear p148
          try clear p150
          try clear q144
          try clear q148
          try clear q150
          obtain ⟨x7_2, x8_2, HA, HK2, HO_4, HO_7, HO_8, BK140, HB⟩ := hrel
          cases gk with
          | zero => exact absurd HA.out (by simp [trees_Shape.l1])
          | succ k2 =>
           have H := HA.out
           clear HA
           simp only [trees_Shape.l1] at H
           by_cases c58 : (x8_2.length : Int) > 0
           ·rw [if_pos c58] at H
            have c58b0 : decide (0 < (x8_2.length : Int)) = true := decide_eq_true c58
            have c58b1 : decide (0 < x8_2.length) = true := decide_eq_true (by omega)
            clear c58
            obtain ⟨ji59, hji59⟩ : ∃ j_ : Int, (wrap64 ((x8_2.length : Int) - 1)) = j_ := ⟨_, rfl⟩
            replace H : (if 0 ≤ (ji59) then (if (ji59) < (x8_2.length : Int) then (if (ji59) ≤ (x8_2.length : Int) then ((some (x8_2.take ((ji59) : Int).toNat : List Int)).bind fun y159 => (if 0 ≤ (rd x8_2 (ji59)) then (if (rd x8_2 (ji59)) < (x7_2.length : Int) then (if rdOf false x7_2 (rd x8_2 (ji59)) = true then (trees_Shape.l1 k2 x4_1 x7_2 y159 a0_0 l0_1) else ((some (x7_2.set ((rd x8_2 (ji59)) : Int).toNat true : List Bool)).bind fun y163 => (if (rd x8_2 (ji59)) < (l0_1.length : Int) then ((trees_inner.f ((rd_T40 l0_1 (rd x8_2 (ji59))).f0) ((rd_T40 l0_1 (rd x8_2 (ji59))).f1) ((rd_T40 l0_1 (rd x8_2 (ji59))).f2) ((rd_T40 l0_1 (rd x8_2 (ji59))).f3) ((rd_T40 l0_1 (rd x8_2 (ji59))).f4) ((rd_T40 l0_1 (rd x8_2 (ji59))).f5) ((rd_T40 l0_1 (rd x8_2 (ji59))).f6) ((rd_T40 l0_1 (rd x8_2 (ji59))).f7)).bind fun t166 => (if t166 = true then ((some (([(rd_T40 l0_1 (rd x8_2 (ji59))).f6, (rd_T40 l0_1 (rd x8_2 (ji59))).f7] : List Int) : List Int)).bind fun y167 => (if y159.length + y167.length < 17592186044416 then (trees_Shape.l1 k2 x4_1 y163 (y159 ++ y167) a0_0 l0_1) else (none))) else (trees_Shape.l1 k2 x4_1 y163 y159 a0_0 l0_1))) else (none)))) else (none)) else (none))) else (none)) else (none)) else (none)) = some (r1, r2) := by first | (rw [hji59] at H; exact H) | (simp only [hji59] at H ⊢; exact H)
            have hji59w : (IntKind.i64.wrap ((x8_2.length : Int) - 1)) = ji59 := (i64_w _).trans hji59
            by_cases c60 : 0 ≤ (ji59)
            ·rw [if_pos c60] at H
             have c60b0 : decide (0 ≤ (ji59)) = true := decide_eq_true c60
             clear c60
             by_cases c61 : (ji59) < (x8_2.length : Int)
             ·rw [if_pos c61] at H
              have c61b0 : decide ((ji59) < (x8_2.length : Int)) = true := decide_eq_true c61
              clear c61
              by_cases c62 : (ji59) ≤ (x8_2.length : Int)
              ·rw [if_pos c62] at H
               have c62b0 := eq_true c62
               have c62b1 : decide ((ji59) ≤ (x8_2.length : Int)) = true := decide_eq_true c62
               clear c62
               obtain ⟨y159, hy159⟩ : ∃ y_ : List Int, y_ = (x8_2.take ((ji59) : Int).toNat) := ⟨_, rfl⟩
               replace H : (if 0 ≤ (rd x8_2 (ji59)) then (if (rd x8_2 (ji59)) < (x7_2.length : Int) then (if rdOf false x7_2 (rd x8_2 (ji59)) = true then (trees_Shape.l1 k2 x4_1 x7_2 y159 a0_0 l0_1) else ((some (x7_2.set ((rd x8_2 (ji59)) : Int).toNat true : List Bool)).bind fun y163 => (if (rd x8_2 (ji59)) < (l0_1.length : Int) then ((trees_inner.f ((rd_T40 l0_1 (rd x8_2 (ji59))).f0) ((rd_T40 l0_1 (rd x8_2 (ji59))).f1) ((rd_T40 l0_1 (rd x8_2 (ji59))).f2) ((rd_T40 l0_1 (rd x8_2 (ji59))).f3) ((rd_T40 l0_1 (rd x8_2 (ji59))).f4) ((rd_T40 l0_1 (rd x8_2 (ji59))).f5) ((rd_T40 l0_1 (rd x8_2 (ji59))).f6) ((rd_T40 l0_1 (rd x8_2 (ji59))).f7)).bind fun t166 => (if t166 = true then ((some (([(rd_T40 l0_1 (rd x8_2 (ji59))).f6, (rd_T40 l0_1 (rd x8_2 (ji59))).f7] : List Int) : List Int)).bind fun y167 => (if y159.length + y167.length < 17592186044416 then (trees_Shape.l1 k2 x4_1 y163 (y159 ++ y167) a0_0 l0_1) else (none))) else (trees_Shape.l1 k2 x4_1 y163 y159 a0_0 l0_1))) else (none)))) else (none)) else (none)) = some (r1, r2) := by first | (rw [hy159]; with_reducible exact H) | (have H2_ := (Option.bind_some _ _).symm.trans H; rw [hy159]; with_reducible exact H2_) | (have H2_ := (Option.bind_some _ _).symm.trans H; with_reducible exact H2_) | with_reducible exact H | (rw [hy159]; exact H) | exact H
               have Ny159 := Aside0.mk hy159
               clear hy159
               by_cases c63 : 0 ≤ (rd x8_2 (ji59))
               ·rw [if_pos c63] at H
                have c63b0 : decide (0 ≤ (rd x8_2 (ji59))) = true := decide_eq_true c63
                clear c63
                by_cases c64 : (rd x8_2 (ji59)) < (x7_2.length : Int)
                ·rw [if_pos c64] at H
                 have c64b0 : decide ((rd x8_2 (ji59)) < (x7_2.length : Int)) = true := decide_eq_true c64
                 clear c64
                 obtain ⟨bq65, hbq65⟩ : ∃ b_ : Bool, b_ = (rdOf false x7_2 (rd x8_2 (ji59))) := ⟨_, rfl⟩
                 replace H : (if bq65 = true then (trees_Shape.l1 k2 x4_1 x7_2 y159 a0_0 l0_1) else ((some (x7_2.set ((rd x8_2 (ji59)) : Int).toNat true : List Bool)).bind fun y163 => (if (rd x8_2 (ji59)) < (l0_1.length : Int) then ((trees_inner.f ((rd_T40 l0_1 (rd x8_2 (ji59))).f0) ((rd_T40 l0_1 (rd x8_2 (ji59))).f1) ((rd_T40 l0_1 (rd x8_2 (ji59))).f2) ((rd_T40 l0_1 (rd x8_2 (ji59))).f3) ((rd_T40 l0_1 (rd x8_2 (ji59))).f4) ((rd_T40 l0_1 (rd x8_2 (ji59))).f5) ((rd_T40 l0_1 (rd x8_2 (ji59))).f6) ((rd_T40 l0_1 (rd x8_2 (ji59))).f7)).bind fun t166 => (if t166 = true then ((some (([(rd_T40 l0_1 (rd x8_2 (ji59))).f6, (rd_T40 l0_1 (rd x8_2 (ji59))).f7] : List Int) : List Int)).bind fun y167 => (if y159.length + y167.length < 17592186044416 then (trees_Shape.l1 k2 x4_1 y163 (y159 ++ y167) a0_0 l0_1) else (none))) else (trees_Shape.l1 k2 x4_1 y163 y159 a0_0 l0_1))) else (none)))) = some (r1, r2) := by rw [← hbq65] at H; exact H
                 have Nbq65 := Aside0.mk hbq65
                 clear hbq65
                 by_cases c66 : bq65 = true
                 ·subst c66
                  have H1 : (trees_Shape.l1 k2 x4_1 x7_2 y159 a0_0 l0_1) = some (r1, r2) := by rw [if_pos rfl] at H; exact H
                  clear H
                  have H := H1
                  clear H1
                  have H' := Aside0.mk H
                  clear H
                  obtain ⟨Ao67, co67, eo67⟩ := Kd.R_slice HO_8.out
                  subst eo67
                  have p158 : 0 ≤ ((ji59) : Int) := of_decide_eq_true ka
                  have q158 : (ji59) < (x8_2.length : Int) := of_decide_eq_true ka
                  obtain ⟨ad158, e158, hx158_0⟩ := Kd.at_int (Kd.R_reads' HO_8.out).2.2 (ji59) p158 q158
                  cases e158
                  replace p158 := eq_true p158
                  replace q158 := eq_true q158
                  have q68 : ((ji59) : Int) ≤ ((x8_2.length : Int) : Int) := of_decide_eq_true ka
                  obtain ⟨i068, hi068, _, hsz68, _⟩ := info_parts info3
                  have hcut68 := cut_to (P := Tryd.prog) 37 3 .i64 Tryd.underlying37 hi068 (some ad158) x8_2.length co67 (ji59) (of_decide_eq_true ka) q68 (Kd.R_reads' HO_8.out).2.1
                  have hr68 := Kd.R_take (m := ((ji59) : Int).toNat) HO_8.out (by omega)
                  have hy68 : y159.length = ((ji59) : Int).toNat := (by rw [Ny159.out, List.length_take]; omega)
                  rw [← Ny159.out] at hr68
                  rw [← hy68] at hr68 hcut68
                  clear hy68 hi068 hsz68 HO_8
                  have HO161 := Aside0.mk hr68
                  clear hr68
                  replace q68 := eq_true q68
                  obtain ⟨Ao69, co69, eo69⟩ := Kd.R_slice HO_7.out
                  subst eo69
                  have p162 : 0 ≤ ((rd x8_2 (ji59)) : Int) := of_decide_eq_true ka
                  have q162 : (rd x8_2 (ji59)) < (x7_2.length : Int) := of_decide_eq_true ka
                  obtain ⟨ad162, e162, hx162_0⟩ := Kd.at_bool (Kd.R_reads' HO_7.out).2.2 (rd x8_2 (ji59)) p162 q162
                  (try rw [← Nbq65.out] at hx162_0)
                  cases e162
                  replace p162 := eq_true p162
                  replace q162 := eq_true q162
                  go_wp2
                  go_roundg k2
                  case measure => have := HK1.out; have := HK2.out; omega
                  case rel => exact ⟨(x7_2), (y159), H', ⟨by have := HK1.out; have := HK2.out; omega⟩, ⟨kR HO_4⟩, ⟨kR HO_7⟩, ⟨kR HO161⟩, ⟨kb BK140⟩, ⟨kB1 HB GE140⟩⟩
                 ·replace c66 := Bool.eq_false_iff.mpr c66
                  subst c66
                  have H1 : ((some (x7_2.set ((rd x8_2 (ji59)) : Int).toNat true : List Bool)).bind fun y163 => (if (rd x8_2 (ji59)) < (l0_1.length : Int) then ((trees_inner.f ((rd_T40 l0_1 (rd x8_2 (ji59))).f0) ((rd_T40 l0_1 (rd x8_2 (ji59))).f1) ((rd_T40 l0_1 (rd x8_2 (ji59))).f2) ((rd_T40 l0_1 (rd x8_2 (ji59))).f3) ((rd_T40 l0_1 (rd x8_2 (ji59))).f4) ((rd_T40 l0_1 (rd x8_2 (ji59))).f5) ((rd_T40 l0_1 (rd x8_2 (ji59))).f6) ((rd_T40 l0_1 (rd x8_2 (ji59))).f7)).bind fun t166 => (if t166 = true then ((some (([(rd_T40 l0_1 (rd x8_2 (ji59))).f6, (rd_T40 l0_1 (rd x8_2 (ji59))).f7] : List Int) : List Int)).bind fun y167 => (if y159.length + y167.length < 17592186044416 then (trees_Shape.l1 k2 x4_1 y163 (y159 ++ y167) a0_0 l0_1) else (none))) else (trees_Shape.l1 k2 x4_1 y163 y159 a0_0 l0_1))) else (none))) = some (r1, r2) := by rw [if_neg (show ¬ (false = true) by decide)] at H; exact H
                  clear H
                  have H := H1
                  clear H1
                  obtain ⟨y163, hy163⟩ : ∃ y_ : List Bool, y_ = (x7_2.set ((rd x8_2 (ji59)) : Int).toNat true) := ⟨_, rfl⟩
                  replace H : (if (rd x8_2 (ji59)) < (l0_1.length : Int) then ((trees_inner.f ((rd_T40 l0_1 (rd x8_2 (ji59))).f0) ((rd_T40 l0_1 (rd x8_2 (ji59))).f1) ((rd_T40 l0_1 (rd x8_2 (ji59))).f2) ((rd_T40 l0_1 (rd x8_2 (ji59))).f3) ((rd_T40 l0_1 (rd x8_2 (ji59))).f4) ((rd_T40 l0_1 (rd x8_2 (ji59))).f5) ((rd_T40 l0_1 (rd x8_2 (ji59))).f6) ((rd_T40 l0_1 (rd x8_2 (ji59))).f7)).bind fun t166 => (if t166 = true then ((some (([(rd_T40 l0_1 (rd x8_2 (ji59))).f6, (rd_T40 l0_1 (rd x8_2 (ji59))).f7] : List Int) : List Int)).bind fun y167 => (if y159.length + y167.length < 17592186044416 then (trees_Shape.l1 k2 x4_1 y163 (y159 ++ y167) a0_0 l0_1) else (none))) else (trees_Shape.l1 k2 x4_1 y163 y159 a0_0 l0_1))) else (none)) = some (r1, r2) := by first | (rw [hy163]; with_reducible exact H) | (have H2_ := (Option.bind_some _ _).symm.trans H; rw [hy163]; with_reducible exact H2_) | (have H2_ := (Option.bind_some _ _).symm.trans H; with_reducible exact H2_) | with_reducible exact H | (rw [hy163]; exact H) | exact H
                  have Ny163 := Aside0.mk hy163
                  clear hy163
                  by_cases c71 : (rd x8_2 (ji59)) < (l0_1.length : Int)
                  ·rw [if_pos c71] at H
                   have c71b0 : decide ((rd x8_2 (ji59)) < (l0_1.length : Int)) = true := decide_eq_true c71
                   clear c71
                   replace H := Option.bind_eq_some_iff.mp H
                   obtain ⟨t166, A720, H⟩ := H
                   replace H : (if t166 = true then ((some (([(rd_T40 l0_1 (rd x8_2 (ji59))).f6, (rd_T40 l0_1 (rd x8_2 (ji59))).f7] : List Int) : List Int)).bind fun y167 => (if y159.length + y167.length < 17592186044416 then (trees_Shape.l1 k2 x4_1 y163 (y159 ++ y167) a0_0 l0_1) else (none))) else (trees_Shape.l1 k2 x4_1 y163 y159 a0_0 l0_1)) = some (r1, r2) := H
                   have A72 := Aside0.mk A720
                   clear A720
                   by_cases c73 : t166 = true
                   ·subst c73
                    have H1 : ((some (([(rd_T40 l0_1 (rd x8_2 (ji59))).f6, (rd_T40 l0_1 (rd x8_2 (ji59))).f7] : List Int) : List Int)).bind fun y167 => (if y159.length + y167.length < 17592186044416 then (trees_Shape.l1 k2 x4_1 y163 (y159 ++ y167) a0_0 l0_1) else (none))) = some (r1, r2) := by rw [if_pos rfl] at H; exact H
                    clear H
                    have H := H1
                    clear H1
                    obtain ⟨y167, hy167⟩ : ∃ y_ : List Int, y_ = (([(rd_T40 l0_1 (rd x8_2 (ji59))).f6, (rd_T40 l0_1 (rd x8_2 (ji59))).f7] : List Int)) := ⟨_, rfl⟩
                    replace H : (if y159.length + y167.length < 17592186044416 then (trees_Shape.l1 k2 x4_1 y163 (y159 ++ y167) a0_0 l0_1) else (none)) = some (r1, r2) := by first | (rw [hy167]; with_reducible exact H) | (have H2_ := (Option.bind_some _ _).symm.trans H; rw [hy167]; with_reducible exact H2_) | (have H2_ := (Option.bind_some _ _).symm.trans H; with_reducible exact H2_) | with_reducible exact H | (rw [hy167]; exact H) | exact H
                    have Ny167 := Aside0.mk hy167
                    clear hy167
                    by_cases c74 : y159.length + y167.length < 17592186044416
                    ·rw [if_pos c74] at H
                     have LMc74 := Aside0.mk c74
                     clear c74
                     obtain ⟨y170, hy170⟩ : ∃ y_ : List Int, y_ = (y159 ++ y167) := ⟨_, rfl⟩
                     replace H : (trees_Shape.l1 k2 x4_1 y163 y170 a0_0 l0_1) = some (r1, r2) := by first | (rw [hy170]; with_reducible exact H) | (have H2_ := (Option.bind_some _ _).symm.trans H; rw [hy170]; with_reducible exact H2_) | (have H2_ := (Option.bind_some _ _).symm.trans H; with_reducible exact H2_) | with_reducible exact H | (rw [hy170]; exact H) | exact H
                     have Ny170 := Aside0.mk hy170
                     clear hy170
                     have H' := Aside0.mk H
                     clear H
                     obtain ⟨Ao75, co75, eo75⟩ := Kd.R_slice HO_8.out
                     subst eo75
                     have p158 : 0 ≤ ((ji59) : Int) := of_decide_eq_true ka
                     have q158 : (ji59) < (x8_2.length : Int) := of_decide_eq_true ka
                     obtain ⟨ad158, e158, hx158_0⟩ := Kd.at_int (Kd.R_reads' HO_8.out).2.2 (ji59) p158 q158
                     cases e158
                     replace p158 := eq_true p158
                     replace q158 := eq_true q158
                     have q76 : ((ji59) : Int) ≤ ((x8_2.length : Int) : Int) := of_decide_eq_true ka
                     obtain ⟨i076, hi076, _, hsz76, _⟩ := info_parts info3
                     have hcut76 := cut_to (P := Tryd.prog) 37 3 .i64 Tryd.underlying37 hi076 (some ad158) x8_2.length co75 (ji59) (of_decide_eq_true ka) q76 (Kd.R_reads' HO_8.out).2.1
                     have hr76 := Kd.R_take (m := ((ji59) : Int).toNat) HO_8.out (by omega)
                     have hy76 : y159.length = ((ji59) : Int).toNat := (by rw [Ny159.out, List.length_take]; omega)
                     rw [← Ny159.out] at hr76
                     rw [← hy76] at hr76 hcut76
                     clear hy76 hi076 hsz76 HO_8
                     have HO161 := Aside0.mk hr76
                     clear hr76
                     replace q76 := eq_true q76
                     obtain ⟨Ao77, co77, eo77⟩ := Kd.R_slice HO_7.out
                     subst eo77
                     have p162 : 0 ≤ ((rd x8_2 (ji59)) : Int) := of_decide_eq_true ka
                     have q162 : (rd x8_2 (ji59)) < (x7_2.length : Int) := of_decide_eq_true ka
                     obtain ⟨ad162, e162, hx162_0⟩ := Kd.at_bool (Kd.R_reads' HO_7.out).2.2 (rd x8_2 (ji59)) p162 q162
                     (try rw [← Nbq65.out] at hx162_0)
                     cases e162
                     replace p162 := eq_true p162
                     replace q162 := eq_true q162
                     have p70 : 0 ≤ ((rd x8_2 (ji59)) : Int) := of_decide_eq_true ka
                     have q70 : ((rd x8_2 (ji59)) : Int) < ((x7_2.length : Int) : Int) := of_decide_eq_true ka
                     obtain ⟨go70, co70, eo70, gb70, gl70, cl70, HG70⟩ := Kd.R_form HO_7.out (by omega)
                     (first | cases eo70 | (injection eo70 with ea_ en_ ec_; (first | subst ea_ | (injection ea_ with ea_; subst ea_)); subst ec_; clear en_))
                     have GB70 := Aside0.mk gb70
                     have GG70 := Aside0.mk HG70
                     clear gb70 gl70 HG70
                     (first | simp only [add_plain] at hx162_0 | skip)
                     obtain ⟨hx70_0, hf70_0⟩ := Kd.R_celln false HO_7.out ((rd x8_2 (ji59)) : Int) p70 q70
                     replace p70 := eq_true p70
                     replace q70 := eq_true q70
                     have HP78 := Kd.R_putg HO_7.out ((rd x8_2 (ji59)) : Int) true
                     go_wp2_with (first | ((with_reducible refine gate_store (t := 4) (p := 78) rfl ?_); refine store_event (t := 4) (p := 78) (v := ?vo_w79) (w1 := (wr.setCell ⟨go70, ((rd x8_2 (ji59)) : Int).toNat, none⟩ (.bool true))) ?hg ?ho ?hn ?hr ?_; (case ho => rfl); (case hg => rfl); (case hn => rfl); (case hr => first | (go_simp; done) | (go_simp; rfl)); intro w79 hw; have hg : wr.grownBy w79 (some go70) := (by rw [hw]; exact HP78.2); have hp_ : Kd.R Kd.bool 4 w79 w.heap.size (fun _ => True) (.slice (some ⟨go70, 0, none⟩) x7_2.length co77) y163 := (by rw [hw, Ny163.out]; exact HP78.1); clear HP78; have n0_ := Aside0.mk (Kd.R_over' (v := (.slice (some ⟨go70, 0, none⟩) x7_2.length co77)) (kR HO_4) (Kd.R_typed HO_7.out) (by decide) hg); have n1_ := Aside0.mk (hp_); have n2_ := Aside0.mk (Kd.R_over' (v := (.slice (some ⟨go70, 0, none⟩) x7_2.length co77)) (kR HO161) (Kd.R_typed HO_7.out) (by decide) hg); have n3_ := Aside0.mk (blk_grown (g := gb140) (o := .cells #[.int .i64 a0_0, .slice A0_1 l0_1.length c0_1] 33 (0, 0)) (kb BK140) hg (Kd.R_ne HO_7.out BK140.out (by decide))); have n4_ := Aside0.mk ((by rw [hw]; exact below_set (HB.out) GB70.out : Below w.heap.size w w79)); clear HO_4; clear HO_7; clear HO161; clear BK140; clear HB; have HO_4 := n0_; have HO_7 := n1_; have HO161 := n2_; have BK140 := n3_; have HB := n4_; clear n0_ n1_ n2_ n3_ n4_; clear hg hw hp_; have hcz80 := blk2 (w := w79) BK140.out; have p164 : 0 ≤ ((rd x8_2 (ji59)) : Int) := of_decide_eq_true ka; have q164 : (rd x8_2 (ji59)) < (l0_1.length : Int) := of_decide_eq_true ka; obtain ⟨ad164, A164_4, c164_4, e164, hx164_0, hx164_1, hx164_2, hx164_3, hx164_4, hx164_5, hx164_6, hx164_7, hl164_4, hi164_4⟩ := at_T40 HR0_1.out (rd x8_2 (ji59)) p164 q164; cases e164; replace hx164_0 := (HB.out.cell (World.block_lt_of_cell? w _ hx164_0)).trans hx164_0; replace hx164_1 := (HB.out.cell (World.block_lt_of_cell? w _ hx164_1)).trans hx164_1; replace hx164_2 := (HB.out.cell (World.block_lt_of_cell? w _ hx164_2)).trans hx164_2; replace hx164_3 := (HB.out.cell (World.block_lt_of_cell? w _ hx164_3)).trans hx164_3; replace hx164_4 := (HB.out.cell (World.block_lt_of_cell? w _ hx164_4)).trans hx164_4; replace hx164_5 := (HB.out.cell (World.block_lt_of_cell? w _ hx164_5)).trans hx164_5; replace hx164_6 := (HB.out.cell (World.block_lt_of_cell? w _ hx164_6)).trans hx164_6; replace hx164_7 := (HB.out.cell (World.block_lt_of_cell? w _ hx164_7)).trans hx164_7; have HR164_4 := Aside0.mk hi164_4; have HC164_4 := Aside0.mk hl164_4; clear hi164_4 hl164_4; replace p164 := eq_true p164; replace q164 := eq_true q164) | ((with_reducible refine gate_dst (N := 10) rfl ?_); refine box_event ?hg (N := 10) ?hd (cs := #[.int .u8 0, .int .i64 0, .int .i64 0, .float .f64 0, .slice none 0 0, .int .u8 0, .int .i64 0, .int .i64 0]) (t := 40) ?hr ?_; (case hd => rfl); (case hg => rfl); (case hr => first | (go_simp; done) | (go_simp; rfl)); intro gb165 hg w81 hbox hb; have n0_ := Aside0.mk (Kd.R_below (kR HO_4) hb); have n1_ := Aside0.mk (Kd.R_below (kR HO_7) hb); have n2_ := Aside0.mk (Kd.R_below (kR HO161) hb); have n3_ := Aside0.mk (blk_below (g := gb140) (o := .cells #[.int .i64 a0_0, .slice (some ad164) l0_1.length c0_1] 33 (0, 0)) (kb BK140) hb); have n4_ := Aside0.mk (below_step (kB1 HB GE140) hb); have n5_ := Aside0.mk (hbox); have n6_ := Aside0.mk ((kg hg (kB1 HB GE140) : w.heap.size ≤ gb165)); have n7_ := Aside0.mk ((kg hg (kB1 HB GE140) : w.heap.size ≤ gb165)); have n8_ := Aside0.mk ((by rw [hg]; exact Nat.ne_of_lt (blk_lt (g := gb140) (o := .cells #[.int .i64 a0_0, .slice (some ad164) l0_1.length c0_1] 33 (0, 0)) (kb BK140)) : gb140 ≠ gb165)); have n9_ := Aside0.mk ((by rw [hg]; exact Nat.ne_of_gt (blk_lt (g := gb140) (o := .cells #[.int .i64 a0_0, .slice (some ad164) l0_1.length c0_1] 33 (0, 0)) (kb BK140)) : gb165 ≠ gb140)); clear HO_4; clear HO_7; clear HO161; clear BK140; clear HB; have HO_4 := n0_; have HO_7 := n1_; have HO161 := n2_; have BK140 := n3_; have HB := n4_; have BK165 := n5_; have GW165 := n6_; have GE165 := n7_; have NB140_165 := n8_; have NB165_140 := n9_; clear n0_ n1_ n2_ n3_ n4_ n5_ n6_ n7_ n8_ n9_; clear hb hbox hg; have hnb82 := NB165_140.out; have hnc82 := NB140_165.out; have hcz83 := blk8 (w := w81) BK165.out) | ((with_reducible refine gate_callee (f := 53) rfl ?_); refine goesL_ (some 85) rfl rfl Tryd.func53 (by kernel_rfl) rfl #[.agg #[.int .u8 ((rd_T40 l0_1 (rd x8_2 (ji59))).f0), .int .i64 ((rd_T40 l0_1 (rd x8_2 (ji59))).f1), .int .i64 ((rd_T40 l0_1 (rd x8_2 (ji59))).f2), .float .f64 ((rd_T40 l0_1 (rd x8_2 (ji59))).f3), .slice A164_4 ((rd_T40 l0_1 (rd x8_2 (ji59))).f4).length c164_4, .int .u8 ((rd_T40 l0_1 (rd x8_2 (ji59))).f5), .int .i64 ((rd_T40 l0_1 (rd x8_2 (ji59))).f6), .int .i64 ((rd_T40 l0_1 (rd x8_2 (ji59))).f7)]] rfl (by (try simp only [List.map_toArray, List.map_cons, List.map_nil]); first | done | (simp only [hji59]; rfl) | rfl | (simp only [List.length_drop, List.length_take]; rfl)) ?_; (with_reducible refine (trees_inner.calls ((rd_T40 l0_1 (rd x8_2 (ji59))).f0) ((rd_T40 l0_1 (rd x8_2 (ji59))).f1) ((rd_T40 l0_1 (rd x8_2 (ji59))).f2) ((rd_T40 l0_1 (rd x8_2 (ji59))).f3) _ _ ((rd_T40 l0_1 (rd x8_2 (ji59))).f4) ((rd_T40 l0_1 (rd x8_2 (ji59))).f5) ((rd_T40 l0_1 (rd x8_2 (ji59))).f6) ((rd_T40 l0_1 (rd x8_2 (ji59))).f7) true _ ?side1 ?side2 A72.out).mono ?_); (case side1 => exact Kd.C_below HR164_4.out (kB2 HB GE140 GE165)); (case side2 => exact HC164_4.out); rintro e w84 ⟨rfl, hb⟩; refine ⟨_, rfl, ?_⟩; have n0_ := Aside0.mk (Kd.R_below (by (with_reducible repeat (first | apply Kd.R_alloc | apply Kd.R_drewN | apply Kd.R_drew)); exact (Kd.R_mono (Kd.R_far (p := ⟨gb165, 7, none⟩) (Kd.R_far (p := ⟨gb165, 6, none⟩) (Kd.R_far (p := ⟨gb165, 5, none⟩) (Kd.R_far (p := ⟨gb165, 4, none⟩) (Kd.R_far (p := ⟨gb165, 3, none⟩) (Kd.R_far (p := ⟨gb165, 2, none⟩) (Kd.R_far (p := ⟨gb165, 1, none⟩) (Kd.R_far (p := ⟨gb165, 0, none⟩) (Kd.R_types HO_4.out BK165.out (by decide)) (fun _ hk => hk.2) (.int .u8 ((rd_T40 l0_1 (rd x8_2 (ji59))).f0))) (fun _ hk => hk.2) (.int .i64 ((rd_T40 l0_1 (rd x8_2 (ji59))).f1))) (fun _ hk => hk.2) (.int .i64 ((rd_T40 l0_1 (rd x8_2 (ji59))).f2))) (fun _ hk => hk.2) (.float .f64 ((rd_T40 l0_1 (rd x8_2 (ji59))).f3))) (fun _ hk => hk.2) (.slice A164_4 ((rd_T40 l0_1 (rd x8_2 (ji59))).f4).length c164_4)) (fun _ hk => hk.2) (.int .u8 ((rd_T40 l0_1 (rd x8_2 (ji59))).f5))) (fun _ hk => hk.2) (.int .i64 ((rd_T40 l0_1 (rd x8_2 (ji59))).f6))) (fun _ hk => hk.2) (.int .i64 ((rd_T40 l0_1 (rd x8_2 (ji59))).f7))) (fun _ h_ => h_.1))) hb); have n1_ := Aside0.mk (Kd.R_below (by (with_reducible repeat (first | apply Kd.R_alloc | apply Kd.R_drewN | apply Kd.R_drew)); exact (Kd.R_mono (Kd.R_far (p := ⟨gb165, 7, none⟩) (Kd.R_far (p := ⟨gb165, 6, none⟩) (Kd.R_far (p := ⟨gb165, 5, none⟩) (Kd.R_far (p := ⟨gb165, 4, none⟩) (Kd.R_far (p := ⟨gb165, 3, none⟩) (Kd.R_far (p := ⟨gb165, 2, none⟩) (Kd.R_far (p := ⟨gb165, 1, none⟩) (Kd.R_far (p := ⟨gb165, 0, none⟩) (Kd.R_types HO_7.out BK165.out (by decide)) (fun _ hk => hk.2) (.int .u8 ((rd_T40 l0_1 (rd x8_2 (ji59))).f0))) (fun _ hk => hk.2) (.int .i64 ((rd_T40 l0_1 (rd x8_2 (ji59))).f1))) (fun _ hk => hk.2) (.int .i64 ((rd_T40 l0_1 (rd x8_2 (ji59))).f2))) (fun _ hk => hk.2) (.float .f64 ((rd_T40 l0_1 (rd x8_2 (ji59))).f3))) (fun _ hk => hk.2) (.slice A164_4 ((rd_T40 l0_1 (rd x8_2 (ji59))).f4).length c164_4)) (fun _ hk => hk.2) (.int .u8 ((rd_T40 l0_1 (rd x8_2 (ji59))).f5))) (fun _ hk => hk.2) (.int .i64 ((rd_T40 l0_1 (rd x8_2 (ji59))).f6))) (fun _ hk => hk.2) (.int .i64 ((rd_T40 l0_1 (rd x8_2 (ji59))).f7))) (fun _ h_ => h_.1))) hb); have n2_ := Aside0.mk (Kd.R_below (by (with_reducible repeat (first | apply Kd.R_alloc | apply Kd.R_drewN | apply Kd.R_drew)); exact (Kd.R_mono (Kd.R_far (p := ⟨gb165, 7, none⟩) (Kd.R_far (p := ⟨gb165, 6, none⟩) (Kd.R_far (p := ⟨gb165, 5, none⟩) (Kd.R_far (p := ⟨gb165, 4, none⟩) (Kd.R_far (p := ⟨gb165, 3, none⟩) (Kd.R_far (p := ⟨gb165, 2, none⟩) (Kd.R_far (p := ⟨gb165, 1, none⟩) (Kd.R_far (p := ⟨gb165, 0, none⟩) (Kd.R_types HO161.out BK165.out (by decide)) (fun _ hk => hk.2) (.int .u8 ((rd_T40 l0_1 (rd x8_2 (ji59))).f0))) (fun _ hk => hk.2) (.int .i64 ((rd_T40 l0_1 (rd x8_2 (ji59))).f1))) (fun _ hk => hk.2) (.int .i64 ((rd_T40 l0_1 (rd x8_2 (ji59))).f2))) (fun _ hk => hk.2) (.float .f64 ((rd_T40 l0_1 (rd x8_2 (ji59))).f3))) (fun _ hk => hk.2) (.slice A164_4 ((rd_T40 l0_1 (rd x8_2 (ji59))).f4).length c164_4)) (fun _ hk => hk.2) (.int .u8 ((rd_T40 l0_1 (rd x8_2 (ji59))).f5))) (fun _ hk => hk.2) (.int .i64 ((rd_T40 l0_1 (rd x8_2 (ji59))).f6))) (fun _ hk => hk.2) (.int .i64 ((rd_T40 l0_1 (rd x8_2 (ji59))).f7))) (fun _ h_ => h_.1))) hb); have n3_ := Aside0.mk (blk_below (g := gb140) (o := .cells #[.int .i64 a0_0, .slice (some ad164) l0_1.length c0_1] 33 (0, 0)) (by (with_reducible repeat (first | refine blk_drewN ?_ _ | refine blk_drew ?_ | refine blk_alloc ?_ _)); refine blk_far ?_ NB140_165.out _; (with_reducible repeat (first | refine blk_drewN ?_ _ | refine blk_drew ?_ | refine blk_alloc ?_ _)); refine blk_far ?_ NB140_165.out _; (with_reducible repeat (first | refine blk_drewN ?_ _ | refine blk_drew ?_ | refine blk_alloc ?_ _)); refine blk_far ?_ NB140_165.out _; (with_reducible repeat (first | refine blk_drewN ?_ _ | refine blk_drew ?_ | refine blk_alloc ?_ _)); refine blk_far ?_ NB140_165.out _; (with_reducible repeat (first | refine blk_drewN ?_ _ | refine blk_drew ?_ | refine blk_alloc ?_ _)); refine blk_far ?_ NB140_165.out _; (with_reducible repeat (first | refine blk_drewN ?_ _ | refine blk_drew ?_ | refine blk_alloc ?_ _)); refine blk_far ?_ NB140_165.out _; (with_reducible repeat (first | refine blk_drewN ?_ _ | refine blk_drew ?_ | refine blk_alloc ?_ _)); refine blk_far ?_ NB140_165.out _; (with_reducible repeat (first | refine blk_drewN ?_ _ | refine blk_drew ?_ | refine blk_alloc ?_ _)); refine blk_far ?_ NB140_165.out _; (with_reducible repeat (first | refine blk_drewN ?_ _ | refine blk_drew ?_ | refine blk_alloc ?_ _)); exact BK140.out) hb); have n4_ := Aside0.mk (blk_below (g := gb165) (o := .cells #[.int .u8 ((rd_T40 l0_1 (rd x8_2 (ji59))).f0), .int .i64 ((rd_T40 l0_1 (rd x8_2 (ji59))).f1), .int .i64 ((rd_T40 l0_1 (rd x8_2 (ji59))).f2), .float .f64 ((rd_T40 l0_1 (rd x8_2 (ji59))).f3), .slice A164_4 ((rd_T40 l0_1 (rd x8_2 (ji59))).f4).length c164_4, .int .u8 ((rd_T40 l0_1 (rd x8_2 (ji59))).f5), .int .i64 ((rd_T40 l0_1 (rd x8_2 (ji59))).f6), .int .i64 ((rd_T40 l0_1 (rd x8_2 (ji59))).f7)] 40 (0, 0)) (by (with_reducible repeat (first | refine blk_drewN ?_ _ | refine blk_drew ?_ | refine blk_alloc ?_ _)); refine blk_put (cs := #[.int .u8 ((rd_T40 l0_1 (rd x8_2 (ji59))).f0), .int .i64 ((rd_T40 l0_1 (rd x8_2 (ji59))).f1), .int .i64 ((rd_T40 l0_1 (rd x8_2 (ji59))).f2), .float .f64 ((rd_T40 l0_1 (rd x8_2 (ji59))).f3), .slice A164_4 ((rd_T40 l0_1 (rd x8_2 (ji59))).f4).length c164_4, .int .u8 ((rd_T40 l0_1 (rd x8_2 (ji59))).f5), .int .i64 ((rd_T40 l0_1 (rd x8_2 (ji59))).f6), .int .i64 0]) ?_ 7 _ rfl; (with_reducible repeat (first | refine blk_drewN ?_ _ | refine blk_drew ?_ | refine blk_alloc ?_ _)); refine blk_put (cs := #[.int .u8 ((rd_T40 l0_1 (rd x8_2 (ji59))).f0), .int .i64 ((rd_T40 l0_1 (rd x8_2 (ji59))).f1), .int .i64 ((rd_T40 l0_1 (rd x8_2 (ji59))).f2), .float .f64 ((rd_T40 l0_1 (rd x8_2 (ji59))).f3), .slice A164_4 ((rd_T40 l0_1 (rd x8_2 (ji59))).f4).length c164_4, .int .u8 ((rd_T40 l0_1 (rd x8_2 (ji59))).f5), .int .i64 0, .int .i64 0]) ?_ 6 _ rfl; (with_reducible repeat (first | refine blk_drewN ?_ _ | refine blk_drew ?_ | refine blk_alloc ?_ _)); refine blk_put (cs := #[.int .u8 ((rd_T40 l0_1 (rd x8_2 (ji59))).f0), .int .i64 ((rd_T40 l0_1 (rd x8_2 (ji59))).f1), .int .i64 ((rd_T40 l0_1 (rd x8_2 (ji59))).f2), .float .f64 ((rd_T40 l0_1 (rd x8_2 (ji59))).f3), .slice A164_4 ((rd_T40 l0_1 (rd x8_2 (ji59))).f4).length c164_4, .int .u8 0, .int .i64 0, .int .i64 0]) ?_ 5 _ rfl; (with_reducible repeat (first | refine blk_drewN ?_ _ | refine blk_drew ?_ | refine blk_alloc ?_ _)); refine blk_put (cs := #[.int .u8 ((rd_T40 l0_1 (rd x8_2 (ji59))).f0), .int .i64 ((rd_T40 l0_1 (rd x8_2 (ji59))).f1), .int .i64 ((rd_T40 l0_1 (rd x8_2 (ji59))).f2), .float .f64 ((rd_T40 l0_1 (rd x8_2 (ji59))).f3), .slice none 0 0, .int .u8 0, .int .i64 0, .int .i64 0]) ?_ 4 _ rfl; (with_reducible repeat (first | refine blk_drewN ?_ _ | refine blk_drew ?_ | refine blk_alloc ?_ _)); refine blk_put (cs := #[.int .u8 ((rd_T40 l0_1 (rd x8_2 (ji59))).f0), .int .i64 ((rd_T40 l0_1 (rd x8_2 (ji59))).f1), .int .i64 ((rd_T40 l0_1 (rd x8_2 (ji59))).f2), .float .f64 0, .slice none 0 0, .int .u8 0, .int .i64 0, .int .i64 0]) ?_ 3 _ rfl; (with_reducible repeat (first | refine blk_drewN ?_ _ | refine blk_drew ?_ | refine blk_alloc ?_ _)); refine blk_put (cs := #[.int .u8 ((rd_T40 l0_1 (rd x8_2 (ji59))).f0), .int .i64 ((rd_T40 l0_1 (rd x8_2 (ji59))).f1), .int .i64 0, .float .f64 0, .slice none 0 0, .int .u8 0, .int .i64 0, .int .i64 0]) ?_ 2 _ rfl; (with_reducible repeat (first | refine blk_drewN ?_ _ | refine blk_drew ?_ | refine blk_alloc ?_ _)); refine blk_put (cs := #[.int .u8 ((rd_T40 l0_1 (rd x8_2 (ji59))).f0), .int .i64 0, .int .i64 0, .float .f64 0, .slice none 0 0, .int .u8 0, .int .i64 0, .int .i64 0]) ?_ 1 _ rfl; (with_reducible repeat (first | refine blk_drewN ?_ _ | refine blk_drew ?_ | refine blk_alloc ?_ _)); refine blk_put (cs := #[.int .u8 0, .int .i64 0, .int .i64 0, .float .f64 0, .slice none 0 0, .int .u8 0, .int .i64 0, .int .i64 0]) ?_ 0 _ rfl; (with_reducible repeat (first | refine blk_drewN ?_ _ | refine blk_drew ?_ | refine blk_alloc ?_ _)); exact BK165.out) hb); have n5_ := Aside0.mk (below_step (kB2 HB GE140 GE165) hb); clear HO_4; clear HO_7; clear HO161; clear BK140; clear BK165; clear HB; have HO_4 := n0_; have HO_7 := n1_; have HO161 := n2_; have BK140 := n3_; have BK165 := n4_; have HB := n5_; clear n0_ n1_ n2_ n3_ n4_ n5_; (try clear hb); (try clear hb2); (try clear hk); (try clear hi); have hcz85 := blk8 (w := w84) BK165.out) | ((with_reducible refine gate_dst (N := 91) rfl ?_); refine Kd.R_lit (Kd.int .i64) _ 3 ?hg (N := 91) ?hd (xs := ([(rd_T40 l0_1 (rd x8_2 (ji59))).f6, (rd_T40 l0_1 (rd x8_2 (ji59))).f7] : List Int)) (inner := [.int .i64 ((rd_T40 l0_1 (rd x8_2 (ji59))).f6), .int .i64 ((rd_T40 l0_1 (rd x8_2 (ji59))).f7)]) (ok := fun _ => True) (okp := fun _ => True) ?hr ?hp (fun _ hk => hk) trivial (Below.refl _ _) (Nat.le_refl _) (by simp) ?_; (case hd => rfl); (case hg => rfl); (case hr => first | (go_simp; done) | (go_simp; rfl)); (case hp => exact (Reps.one (show Kd.M (Kd.int .i64) _ _ _ ((rd_T40 l0_1 (rd x8_2 (ji59))).f6) [.int .i64 ((rd_T40 l0_1 (rd x8_2 (ji59))).f6)] from rfl) (Reps.one (show Kd.M (Kd.int .i64) _ _ _ ((rd_T40 l0_1 (rd x8_2 (ji59))).f7) [.int .i64 ((rd_T40 l0_1 (rd x8_2 (ji59))).f7)] from rfl) (Reps.none _ _)))); intro v168 w86 ho87 hb hg_ hnew_; clear hg_ hnew_; (first | rw [← Ny167.out] at ho87 | (simp only [Int.reduceToNat] at ho87; rw [← Ny167.out] at ho87)); have n0_ := Aside0.mk (Kd.R_elder' (kR HO_4) (Kd.R_base ho87) hb); have n1_ := Aside0.mk (Kd.R_below (kR HO_7) hb); have n2_ := Aside0.mk (Kd.R_elder' (kR HO161) (Kd.R_base ho87) hb); have n3_ := Aside0.mk (Kd.R_lower (Kd.R_new' (Kd.R_new' ho87 (Kd.R_lt (kR HO_4))) (Kd.R_lt (kR HO161))) (below_size (kB2 HB GE140 GE165))); have n4_ := Aside0.mk (blk_below (g := gb140) (o := .cells #[.int .i64 a0_0, .slice (some ad164) l0_1.length c0_1] 33 (0, 0)) (kb BK140) hb); have n5_ := Aside0.mk (blk_below (g := gb165) (o := .cells #[.int .u8 ((rd_T40 l0_1 (rd x8_2 (ji59))).f0), .int .i64 ((rd_T40 l0_1 (rd x8_2 (ji59))).f1), .int .i64 ((rd_T40 l0_1 (rd x8_2 (ji59))).f2), .float .f64 ((rd_T40 l0_1 (rd x8_2 (ji59))).f3), .slice A164_4 ((rd_T40 l0_1 (rd x8_2 (ji59))).f4).length c164_4, .int .u8 ((rd_T40 l0_1 (rd x8_2 (ji59))).f5), .int .i64 ((rd_T40 l0_1 (rd x8_2 (ji59))).f6), .int .i64 ((rd_T40 l0_1 (rd x8_2 (ji59))).f7)] 40 (0, 0)) (kb BK165) hb); have n6_ := Aside0.mk (below_step (kB2 HB GE140 GE165) hb); clear HO_4; clear HO_7; clear HO161; clear BK140; clear BK165; clear HB; have HO_4 := n0_; have HO_7 := n1_; have HO161 := n2_; have HO169 := n3_; have BK140 := n4_; have BK165 := n5_; have HB := n6_; clear n0_ n1_ n2_ n3_ n4_ n5_ n6_; clear hb ho87; obtain ⟨Ao89, co89, eo89⟩ := Kd.R_slice HO169.out; subst eo89) | ((with_reducible refine gate_builtin (b := .append) (xs := #[.tmp 86, .tmp 91]) rfl ?_); at_builtin; refine Kd.R_append_rows (Kd.int .i64) (w0 := w) w.heap.size rfl (.tmp 86) (.tmp 91) 37 3 (.int .i64 0) 8 rfl Tryd.underlying37 info3 rfl (by decide) (by omega) (.slice (some ad158) y159.length co75) y159 y167 _ _ _ (fun k_ => some k_ ≠ (v142 : Value).ownBlock ∧ some k_ ≠ (.slice Ao89 y167.length co89 : Value).ownBlock) (fun _ => False) rfl rfl ?aO ?aR (fun _ _ h => h) (fun _ h => h.elim) ?aF ?aB ?aS ?aL ?_; (case aR => repeat (first | exact (Kd.R_reads' HO169.out).2.2 | (with_reducible refine Kd.C_alloc ?_ _) | (with_reducible refine Kd.C_drewN ?_ _) | (with_reducible refine Kd.C_drew ?_))); (case aB => exact (kB2 HB GE140 GE165)); (case aF => exact (fun k_ hk => ⟨Kd.fresh' (Kd.R_lt (kR HO_4)) k_ hk, Kd.fresh' (Kd.R_lt (kR HO169)) k_ hk⟩)); (case aO => exact (kR HO161)); (case aS => exact (below_size (kB2 HB GE140 GE165))); (case aL => have := LMc74.out; omega); intro v171 w88 ho hb hg hat; rw [← Ny170.out] at ho; have n0_ := Aside0.mk (Kd.R_after (ok := (fun k_ => some k_ ≠ (.slice Ao89 y167.length co89 : Value).ownBlock)) (by (with_reducible repeat (first | apply Kd.R_alloc | apply Kd.R_drewN | apply Kd.R_drew)); exact Kd.R_mono HO_4.out (fun _ hk => ⟨hk.2, hk.1⟩)) hg hat); have n1_ := Aside0.mk (Kd.R_over' (kR HO_7) (Kd.R_typed (kR HO161)) (by decide) hg); have n2_ := Aside0.mk (blk_grown (g := gb140) (o := .cells #[.int .i64 a0_0, .slice (some ad164) l0_1.length c0_1] 33 (0, 0)) (kb BK140) hg (Kd.R_ne HO161.out BK140.out (by decide))); have n3_ := Aside0.mk (blk_grown (g := gb165) (o := .cells #[.int .u8 ((rd_T40 l0_1 (rd x8_2 (ji59))).f0), .int .i64 ((rd_T40 l0_1 (rd x8_2 (ji59))).f1), .int .i64 ((rd_T40 l0_1 (rd x8_2 (ji59))).f2), .float .f64 ((rd_T40 l0_1 (rd x8_2 (ji59))).f3), .slice A164_4 ((rd_T40 l0_1 (rd x8_2 (ji59))).f4).length c164_4, .int .u8 ((rd_T40 l0_1 (rd x8_2 (ji59))).f5), .int .i64 ((rd_T40 l0_1 (rd x8_2 (ji59))).f6), .int .i64 ((rd_T40 l0_1 (rd x8_2 (ji59))).f7)] 40 (0, 0)) (kb BK165) hg (Kd.R_ne HO161.out BK165.out (by decide))); have n4_ := Aside0.mk (Kd.R_after (ok := (fun k_ => some k_ ≠ (v142 : Value).ownBlock)) (by (with_reducible repeat (first | apply Kd.R_alloc | apply Kd.R_drewN | apply Kd.R_drew)); exact Kd.R_mono HO169.out (fun _ hk => ⟨hk.1.2, hk.2⟩)) hg hat); have n5_ := Aside0.mk (hb); have n6_ := Aside0.mk (ho); clear HO_4; clear HO_7; clear BK140; clear BK165; clear HO169; clear HB; clear HO161; have HO_4 := n0_; have HO_7 := n1_; have BK140 := n2_; have BK165 := n3_; have HO169 := n4_; have HB := n5_; have HO172 := n6_; clear n0_ n1_ n2_ n3_ n4_ n5_ n6_; clear ho hb hg hat))
                     go_roundg k2
                     case measure => have := HK1.out; have := HK2.out; omega
                     case rel => exact ⟨(y163), (y170), H', ⟨by have := HK1.out; have := HK2.out; omega⟩, ⟨by (with_reducible repeat (first | apply Kd.R_alloc | apply Kd.R_drewN | apply Kd.R_drew)); exact Kd.R_mono HO_4.out (fun _ hk => hk.2)⟩, ⟨kR HO_7⟩, ⟨by (with_reducible repeat (first | apply Kd.R_alloc | apply Kd.R_drewN | apply Kd.R_drew)); exact Kd.R_mono HO172.out (fun _ hk => hk.1)⟩, ⟨kb BK140⟩, ⟨kB2 HB GE140 GE165⟩⟩
                    ·rw [if_neg c74] at H
                     exact absurd H (by simp)
                   ·replace c73 := Bool.eq_false_iff.mpr c73
                    subst c73
                    have H1 : (trees_Shape.l1 k2 x4_1 y163 y159 a0_0 l0_1) = some (r1, r2) := by rw [if_neg (show ¬ (false = true) by decide)] at H; exact H
                    clear H
                    have H := H1
                    clear H1
                    have H' := Aside0.mk H
                    clear H
                    obtain ⟨Ao90, co90, eo90⟩ := Kd.R_slice HO_8.out
                    subst eo90
                    have p158 : 0 ≤ ((ji59) : Int) := of_decide_eq_true ka
                    have q158 : (ji59) < (x8_2.length : Int) := of_decide_eq_true ka
                    obtain ⟨ad158, e158, hx158_0⟩ := Kd.at_int (Kd.R_reads' HO_8.out).2.2 (ji59) p158 q158
                    cases e158
                    replace p158 := eq_true p158
                    replace q158 := eq_true q158
                    have q91 : ((ji59) : Int) ≤ ((x8_2.length : Int) : Int) := of_decide_eq_true ka
                    obtain ⟨i091, hi091, _, hsz91, _⟩ := info_parts info3
                    have hcut91 := cut_to (P := Tryd.prog) 37 3 .i64 Tryd.underlying37 hi091 (some ad158) x8_2.length co90 (ji59) (of_decide_eq_true ka) q91 (Kd.R_reads' HO_8.out).2.1
                    have hr91 := Kd.R_take (m := ((ji59) : Int).toNat) HO_8.out (by omega)
                    have hy91 : y159.length = ((ji59) : Int).toNat := (by rw [Ny159.out, List.length_take]; omega)
                    rw [← Ny159.out] at hr91
                    rw [← hy91] at hr91 hcut91
                    clear hy91 hi091 hsz91 HO_8
                    have HO161 := Aside0.mk hr91
                    clear hr91
                    replace q91 := eq_true q91
                    obtain ⟨Ao92, co92, eo92⟩ := Kd.R_slice HO_7.out
                    subst eo92
                    have p162 : 0 ≤ ((rd x8_2 (ji59)) : Int) := of_decide_eq_true ka
                    have q162 : (rd x8_2 (ji59)) < (x7_2.length : Int) := of_decide_eq_true ka
                    obtain ⟨ad162, e162, hx162_0⟩ := Kd.at_bool (Kd.R_reads' HO_7.out).2.2 (rd x8_2 (ji59)) p162 q162
                    (try rw [← Nbq65.out] at hx162_0)
                    cases e162
                    replace p162 := eq_true p162
                    replace q162 := eq_true q162
                    have p70 : 0 ≤ ((rd x8_2 (ji59)) : Int) := of_decide_eq_true ka
                    have q70 : ((rd x8_2 (ji59)) : Int) < ((x7_2.length : Int) : Int) := of_decide_eq_true ka
                    obtain ⟨go70, co70, eo70, gb70, gl70, cl70, HG70⟩ := Kd.R_form HO_7.out (by omega)
                    (first | cases eo70 | (injection eo70 with ea_ en_ ec_; (first | subst ea_ | (injection ea_ with ea_; subst ea_)); subst ec_; clear en_))
                    have GB70 := Aside0.mk gb70
                    have GG70 := Aside0.mk HG70
                    clear gb70 gl70 HG70
                    (first | simp only [add_plain] at hx162_0 | skip)
                    obtain ⟨hx70_0, hf70_0⟩ := Kd.R_celln false HO_7.out ((rd x8_2 (ji59)) : Int) p70 q70
                    replace p70 := eq_true p70
                    replace q70 := eq_true q70
                    have HP93 := Kd.R_putg HO_7.out ((rd x8_2 (ji59)) : Int) true
                    go_wp2_with (first | ((with_reducible refine gate_store (t := 4) (p := 78) rfl ?_); refine store_event (t := 4) (p := 78) (v := ?vo_w94) (w1 := (wr.setCell ⟨go70, ((rd x8_2 (ji59)) : Int).toNat, none⟩ (.bool true))) ?hg ?ho ?hn ?hr ?_; (case ho => rfl); (case hg => rfl); (case hn => rfl); (case hr => first | (go_simp; done) | (go_simp; rfl)); intro w94 hw; have hg : wr.grownBy w94 (some go70) := (by rw [hw]; exact HP93.2); have hp_ : Kd.R Kd.bool 4 w94 w.heap.size (fun _ => True) (.slice (some ⟨go70, 0, none⟩) x7_2.length co92) y163 := (by rw [hw, Ny163.out]; exact HP93.1); clear HP93; have n0_ := Aside0.mk (Kd.R_over' (v := (.slice (some ⟨go70, 0, none⟩) x7_2.length co92)) (kR HO_4) (Kd.R_typed HO_7.out) (by decide) hg); have n1_ := Aside0.mk (hp_); have n2_ := Aside0.mk (Kd.R_over' (v := (.slice (some ⟨go70, 0, none⟩) x7_2.length co92)) (kR HO161) (Kd.R_typed HO_7.out) (by decide) hg); have n3_ := Aside0.mk (blk_grown (g := gb140) (o := .cells #[.int .i64 a0_0, .slice A0_1 l0_1.length c0_1] 33 (0, 0)) (kb BK140) hg (Kd.R_ne HO_7.out BK140.out (by decide))); have n4_ := Aside0.mk ((by rw [hw]; exact below_set (HB.out) GB70.out : Below w.heap.size w w94)); clear HO_4; clear HO_7; clear HO161; clear BK140; clear HB; have HO_4 := n0_; have HO_7 := n1_; have HO161 := n2_; have BK140 := n3_; have HB := n4_; clear n0_ n1_ n2_ n3_ n4_; clear hg hw hp_; have hcz95 := blk2 (w := w94) BK140.out; have p164 : 0 ≤ ((rd x8_2 (ji59)) : Int) := of_decide_eq_true ka; have q164 : (rd x8_2 (ji59)) < (l0_1.length : Int) := of_decide_eq_true ka; obtain ⟨ad164, A164_4, c164_4, e164, hx164_0, hx164_1, hx164_2, hx164_3, hx164_4, hx164_5, hx164_6, hx164_7, hl164_4, hi164_4⟩ := at_T40 HR0_1.out (rd x8_2 (ji59)) p164 q164; cases e164; replace hx164_0 := (HB.out.cell (World.block_lt_of_cell? w _ hx164_0)).trans hx164_0; replace hx164_1 := (HB.out.cell (World.block_lt_of_cell? w _ hx164_1)).trans hx164_1; replace hx164_2 := (HB.out.cell (World.block_lt_of_cell? w _ hx164_2)).trans hx164_2; replace hx164_3 := (HB.out.cell (World.block_lt_of_cell? w _ hx164_3)).trans hx164_3; replace hx164_4 := (HB.out.cell (World.block_lt_of_cell? w _ hx164_4)).trans hx164_4; replace hx164_5 := (HB.out.cell (World.block_lt_of_cell? w _ hx164_5)).trans hx164_5; replace hx164_6 := (HB.out.cell (World.block_lt_of_cell? w _ hx164_6)).trans hx164_6; replace hx164_7 := (HB.out.cell (World.block_lt_of_cell? w _ hx164_7)).trans hx164_7; have HR164_4 := Aside0.mk hi164_4; have HC164_4 := Aside0.mk hl164_4; clear hi164_4 hl164_4; replace p164 := eq_true p164; replace q164 := eq_true q164) | ((with_reducible refine gate_dst (N := 10) rfl ?_); refine box_event ?hg (N := 10) ?hd (cs := #[.int .u8 0, .int .i64 0, .int .i64 0, .float .f64 0, .slice none 0 0, .int .u8 0, .int .i64 0, .int .i64 0]) (t := 40) ?hr ?_; (case hd => rfl); (case hg => rfl); (case hr => first | (go_simp; done) | (go_simp; rfl)); intro gb165 hg w96 hbox hb; have n0_ := Aside0.mk (Kd.R_below (kR HO_4) hb); have n1_ := Aside0.mk (Kd.R_below (kR HO_7) hb); have n2_ := Aside0.mk (Kd.R_below (kR HO161) hb); have n3_ := Aside0.mk (blk_below (g := gb140) (o := .cells #[.int .i64 a0_0, .slice (some ad164) l0_1.length c0_1] 33 (0, 0)) (kb BK140) hb); have n4_ := Aside0.mk (below_step (kB1 HB GE140) hb); have n5_ := Aside0.mk (hbox); have n6_ := Aside0.mk ((kg hg (kB1 HB GE140) : w.heap.size ≤ gb165)); have n7_ := Aside0.mk ((kg hg (kB1 HB GE140) : w.heap.size ≤ gb165)); have n8_ := Aside0.mk ((by rw [hg]; exact Nat.ne_of_lt (blk_lt (g := gb140) (o := .cells #[.int .i64 a0_0, .slice (some ad164) l0_1.length c0_1] 33 (0, 0)) (kb BK140)) : gb140 ≠ gb165)); have n9_ := Aside0.mk ((by rw [hg]; exact Nat.ne_of_gt (blk_lt (g := gb140) (o := .cells #[.int .i64 a0_0, .slice (some ad164) l0_1.length c0_1] 33 (0, 0)) (kb BK140)) : gb165 ≠ gb140)); clear HO_4; clear HO_7; clear HO161; clear BK140; clear HB; have HO_4 := n0_; have HO_7 := n1_; have HO161 := n2_; have BK140 := n3_; have HB := n4_; have BK165 := n5_; have GW165 := n6_; have GE165 := n7_; have NB140_165 := n8_; have NB165_140 := n9_; clear n0_ n1_ n2_ n3_ n4_ n5_ n6_ n7_ n8_ n9_; clear hb hbox hg; have hnb97 := NB165_140.out; have hnc97 := NB140_165.out; have hcz98 := blk8 (w := w96) BK165.out) | ((with_reducible refine gate_callee (f := 53) rfl ?_); refine goesL_ (some 85) rfl rfl Tryd.func53 (by kernel_rfl) rfl #[.agg #[.int .u8 ((rd_T40 l0_1 (rd x8_2 (ji59))).f0), .int .i64 ((rd_T40 l0_1 (rd x8_2 (ji59))).f1), .int .i64 ((rd_T40 l0_1 (rd x8_2 (ji59))).f2), .float .f64 ((rd_T40 l0_1 (rd x8_2 (ji59))).f3), .slice A164_4 ((rd_T40 l0_1 (rd x8_2 (ji59))).f4).length c164_4, .int .u8 ((rd_T40 l0_1 (rd x8_2 (ji59))).f5), .int .i64 ((rd_T40 l0_1 (rd x8_2 (ji59))).f6), .int .i64 ((rd_T40 l0_1 (rd x8_2 (ji59))).f7)]] rfl (by (try simp only [List.map_toArray, List.map_cons, List.map_nil]); first | done | (simp only [hji59]; rfl) | rfl | (simp only [List.length_drop, List.length_take]; rfl)) ?_; (with_reducible refine (trees_inner.calls ((rd_T40 l0_1 (rd x8_2 (ji59))).f0) ((rd_T40 l0_1 (rd x8_2 (ji59))).f1) ((rd_T40 l0_1 (rd x8_2 (ji59))).f2) ((rd_T40 l0_1 (rd x8_2 (ji59))).f3) _ _ ((rd_T40 l0_1 (rd x8_2 (ji59))).f4) ((rd_T40 l0_1 (rd x8_2 (ji59))).f5) ((rd_T40 l0_1 (rd x8_2 (ji59))).f6) ((rd_T40 l0_1 (rd x8_2 (ji59))).f7) false _ ?side1 ?side2 A72.out).mono ?_); (case side1 => exact Kd.C_below HR164_4.out (kB2 HB GE140 GE165)); (case side2 => exact HC164_4.out); rintro e w99 ⟨rfl, hb⟩; refine ⟨_, rfl, ?_⟩; have n0_ := Aside0.mk (Kd.R_below (by (with_reducible repeat (first | apply Kd.R_alloc | apply Kd.R_drewN | apply Kd.R_drew)); exact (Kd.R_mono (Kd.R_far (p := ⟨gb165, 7, none⟩) (Kd.R_far (p := ⟨gb165, 6, none⟩) (Kd.R_far (p := ⟨gb165, 5, none⟩) (Kd.R_far (p := ⟨gb165, 4, none⟩) (Kd.R_far (p := ⟨gb165, 3, none⟩) (Kd.R_far (p := ⟨gb165, 2, none⟩) (Kd.R_far (p := ⟨gb165, 1, none⟩) (Kd.R_far (p := ⟨gb165, 0, none⟩) (Kd.R_types HO_4.out BK165.out (by decide)) (fun _ hk => hk.2) (.int .u8 ((rd_T40 l0_1 (rd x8_2 (ji59))).f0))) (fun _ hk => hk.2) (.int .i64 ((rd_T40 l0_1 (rd x8_2 (ji59))).f1))) (fun _ hk => hk.2) (.int .i64 ((rd_T40 l0_1 (rd x8_2 (ji59))).f2))) (fun _ hk => hk.2) (.float .f64 ((rd_T40 l0_1 (rd x8_2 (ji59))).f3))) (fun _ hk => hk.2) (.slice A164_4 ((rd_T40 l0_1 (rd x8_2 (ji59))).f4).length c164_4)) (fun _ hk => hk.2) (.int .u8 ((rd_T40 l0_1 (rd x8_2 (ji59))).f5))) (fun _ hk => hk.2) (.int .i64 ((rd_T40 l0_1 (rd x8_2 (ji59))).f6))) (fun _ hk => hk.2) (.int .i64 ((rd_T40 l0_1 (rd x8_2 (ji59))).f7))) (fun _ h_ => h_.1))) hb); have n1_ := Aside0.mk (Kd.R_below (by (with_reducible repeat (first | apply Kd.R_alloc | apply Kd.R_drewN | apply Kd.R_drew)); exact (Kd.R_mono (Kd.R_far (p := ⟨gb165, 7, none⟩) (Kd.R_far (p := ⟨gb165, 6, none⟩) (Kd.R_far (p := ⟨gb165, 5, none⟩) (Kd.R_far (p := ⟨gb165, 4, none⟩) (Kd.R_far (p := ⟨gb165, 3, none⟩) (Kd.R_far (p := ⟨gb165, 2, none⟩) (Kd.R_far (p := ⟨gb165, 1, none⟩) (Kd.R_far (p := ⟨gb165, 0, none⟩) (Kd.R_types HO_7.out BK165.out (by decide)) (fun _ hk => hk.2) (.int .u8 ((rd_T40 l0_1 (rd x8_2 (ji59))).f0))) (fun _ hk => hk.2) (.int .i64 ((rd_T40 l0_1 (rd x8_2 (ji59))).f1))) (fun _ hk => hk.2) (.int .i64 ((rd_T40 l0_1 (rd x8_2 (ji59))).f2))) (fun _ hk => hk.2) (.float .f64 ((rd_T40 l0_1 (rd x8_2 (ji59))).f3))) (fun _ hk => hk.2) (.slice A164_4 ((rd_T40 l0_1 (rd x8_2 (ji59))).f4).length c164_4)) (fun _ hk => hk.2) (.int .u8 ((rd_T40 l0_1 (rd x8_2 (ji59))).f5))) (fun _ hk => hk.2) (.int .i64 ((rd_T40 l0_1 (rd x8_2 (ji59))).f6))) (fun _ hk => hk.2) (.int .i64 ((rd_T40 l0_1 (rd x8_2 (ji59))).f7))) (fun _ h_ => h_.1))) hb); have n2_ := Aside0.mk (Kd.R_below (by (with_reducible repeat (first | apply Kd.R_alloc | apply Kd.R_drewN | apply Kd.R_drew)); exact (Kd.R_mono (Kd.R_far (p := ⟨gb165, 7, none⟩) (Kd.R_far (p := ⟨gb165, 6, none⟩) (Kd.R_far (p := ⟨gb165, 5, none⟩) (Kd.R_far (p := ⟨gb165, 4, none⟩) (Kd.R_far (p := ⟨gb165, 3, none⟩) (Kd.R_far (p := ⟨gb165, 2, none⟩) (Kd.R_far (p := ⟨gb165, 1, none⟩) (Kd.R_far (p := ⟨gb165, 0, none⟩) (Kd.R_types HO161.out BK165.out (by decide)) (fun _ hk => hk.2) (.int .u8 ((rd_T40 l0_1 (rd x8_2 (ji59))).f0))) (fun _ hk => hk.2) (.int .i64 ((rd_T40 l0_1 (rd x8_2 (ji59))).f1))) (fun _ hk => hk.2) (.int .i64 ((rd_T40 l0_1 (rd x8_2 (ji59))).f2))) (fun _ hk => hk.2) (.float .f64 ((rd_T40 l0_1 (rd x8_2 (ji59))).f3))) (fun _ hk => hk.2) (.slice A164_4 ((rd_T40 l0_1 (rd x8_2 (ji59))).f4).length c164_4)) (fun _ hk => hk.2) (.int .u8 ((rd_T40 l0_1 (rd x8_2 (ji59))).f5))) (fun _ hk => hk.2) (.int .i64 ((rd_T40 l0_1 (rd x8_2 (ji59))).f6))) (fun _ hk => hk.2) (.int .i64 ((rd_T40 l0_1 (rd x8_2 (ji59))).f7))) (fun _ h_ => h_.1))) hb); have n3_ := Aside0.mk (blk_below (g := gb140) (o := .cells #[.int .i64 a0_0, .slice (some ad164) l0_1.length c0_1] 33 (0, 0)) (by (with_reducible repeat (first | refine blk_drewN ?_ _ | refine blk_drew ?_ | refine blk_alloc ?_ _)); refine blk_far ?_ NB140_165.out _; (with_reducible repeat (first | refine blk_drewN ?_ _ | refine blk_drew ?_ | refine blk_alloc ?_ _)); refine blk_far ?_ NB140_165.out _; (with_reducible repeat (first | refine blk_drewN ?_ _ | refine blk_drew ?_ | refine blk_alloc ?_ _)); refine blk_far ?_ NB140_165.out _; (with_reducible repeat (first | refine blk_drewN ?_ _ | refine blk_drew ?_ | refine blk_alloc ?_ _)); refine blk_far ?_ NB140_165.out _; (with_reducible repeat (first | refine blk_drewN ?_ _ | refine blk_drew ?_ | refine blk_alloc ?_ _)); refine blk_far ?_ NB140_165.out _; (with_reducible repeat (first | refine blk_drewN ?_ _ | refine blk_drew ?_ | refine blk_alloc ?_ _)); refine blk_far ?_ NB140_165.out _; (with_reducible repeat (first | refine blk_drewN ?_ _ | refine blk_drew ?_ | refine blk_alloc ?_ _)); refine blk_far ?_ NB140_165.out _; (with_reducible repeat (first | refine blk_drewN ?_ _ | refine blk_drew ?_ | refine blk_alloc ?_ _)); refine blk_far ?_ NB140_165.out _; (with_reducible repeat (first | refine blk_drewN ?_ _ | refine blk_drew ?_ | refine blk_alloc ?_ _)); exact BK140.out) hb); have n4_ := Aside0.mk (blk_below (g := gb165) (o := .cells #[.int .u8 ((rd_T40 l0_1 (rd x8_2 (ji59))).f0), .int .i64 ((rd_T40 l0_1 (rd x8_2 (ji59))).f1), .int .i64 ((rd_T40 l0_1 (rd x8_2 (ji59))).f2), .float .f64 ((rd_T40 l0_1 (rd x8_2 (ji59))).f3), .slice A164_4 ((rd_T40 l0_1 (rd x8_2 (ji59))).f4).length c164_4, .int .u8 ((rd_T40 l0_1 (rd x8_2 (ji59))).f5), .int .i64 ((rd_T40 l0_1 (rd x8_2 (ji59))).f6), .int .i64 ((rd_T40 l0_1 (rd x8_2 (ji59))).f7)] 40 (0, 0)) (by (with_reducible repeat (first | refine blk_drewN ?_ _ | refine blk_drew ?_ | refine blk_alloc ?_ _)); refine blk_put (cs := #[.int .u8 ((rd_T40 l0_1 (rd x8_2 (ji59))).f0), .int .i64 ((rd_T40 l0_1 (rd x8_2 (ji59))).f1), .int .i64 ((rd_T40 l0_1 (rd x8_2 (ji59))).f2), .float .f64 ((rd_T40 l0_1 (rd x8_2 (ji59))).f3), .slice A164_4 ((rd_T40 l0_1 (rd x8_2 (ji59))).f4).length c164_4, .int .u8 ((rd_T40 l0_1 (rd x8_2 (ji59))).f5), .int .i64 ((rd_T40 l0_1 (rd x8_2 (ji59))).f6), .int .i64 0]) ?_ 7 _ rfl; (with_reducible repeat (first | refine blk_drewN ?_ _ | refine blk_drew ?_ | refine blk_alloc ?_ _)); refine blk_put (cs := #[.int .u8 ((rd_T40 l0_1 (rd x8_2 (ji59))).f0), .int .i64 ((rd_T40 l0_1 (rd x8_2 (ji59))).f1), .int .i64 ((rd_T40 l0_1 (rd x8_2 (ji59))).f2), .float .f64 ((rd_T40 l0_1 (rd x8_2 (ji59))).f3), .slice A164_4 ((rd_T40 l0_1 (rd x8_2 (ji59))).f4).length c164_4, .int .u8 ((rd_T40 l0_1 (rd x8_2 (ji59))).f5), .int .i64 0, .int .i64 0]) ?_ 6 _ rfl; (with_reducible repeat (first | refine blk_drewN ?_ _ | refine blk_drew ?_ | refine blk_alloc ?_ _)); refine blk_put (cs := #[.int .u8 ((rd_T40 l0_1 (rd x8_2 (ji59))).f0), .int .i64 ((rd_T40 l0_1 (rd x8_2 (ji59))).f1), .int .i64 ((rd_T40 l0_1 (rd x8_2 (ji59))).f2), .float .f64 ((rd_T40 l0_1 (rd x8_2 (ji59))).f3), .slice A164_4 ((rd_T40 l0_1 (rd x8_2 (ji59))).f4).length c164_4, .int .u8 0, .int .i64 0, .int .i64 0]) ?_ 5 _ rfl; (with_reducible repeat (first | refine blk_drewN ?_ _ | refine blk_drew ?_ | refine blk_alloc ?_ _)); refine blk_put (cs := #[.int .u8 ((rd_T40 l0_1 (rd x8_2 (ji59))).f0), .int .i64 ((rd_T40 l0_1 (rd x8_2 (ji59))).f1), .int .i64 ((rd_T40 l0_1 (rd x8_2 (ji59))).f2), .float .f64 ((rd_T40 l0_1 (rd x8_2 (ji59))).f3), .slice none 0 0, .int .u8 0, .int .i64 0, .int .i64 0]) ?_ 4 _ rfl; (with_reducible repeat (first | refine blk_drewN ?_ _ | refine blk_drew ?_ | refine blk_alloc ?_ _)); refine blk_put (cs := #[.int .u8 ((rd_T40 l0_1 (rd x8_2 (ji59))).f0), .int .i64 ((rd_T40 l0_1 (rd x8_2 (ji59))).f1), .int .i64 ((rd_T40 l0_1 (rd x8_2 (ji59))).f2), .float .f64 0, .slice none 0 0, .int .u8 0, .int .i64 0, .int .i64 0]) ?_ 3 _ rfl; (with_reducible repeat (first | refine blk_drewN ?_ _ | refine blk_drew ?_ | refine blk_alloc ?_ _)); refine blk_put (cs := #[.int .u8 ((rd_T40 l0_1 (rd x8_2 (ji59))).f0), .int .i64 ((rd_T40 l0_1 (rd x8_2 (ji59))).f1), .int .i64 0, .float .f64 0, .slice none 0 0, .int .u8 0, .int .i64 0, .int .i64 0]) ?_ 2 _ rfl; (with_reducible repeat (first | refine blk_drewN ?_ _ | refine blk_drew ?_ | refine blk_alloc ?_ _)); refine blk_put (cs := #[.int .u8 ((rd_T40 l0_1 (rd x8_2 (ji59))).f0), .int .i64 0, .int .i64 0, .float .f64 0, .slice none 0 0, .int .u8 0, .int .i64 0, .int .i64 0]) ?_ 1 _ rfl; (with_reducible repeat (first | refine blk_drewN ?_ _ | refine blk_drew ?_ | refine blk_alloc ?_ _)); refine blk_put (cs := #[.int .u8 0, .int .i64 0, .int .i64 0, .float .f64 0, .slice none 0 0, .int .u8 0, .int .i64 0, .int .i64 0]) ?_ 0 _ rfl; (with_reducible repeat (first | refine blk_drewN ?_ _ | refine blk_drew ?_ | refine blk_alloc ?_ _)); exact BK165.out) hb); have n5_ := Aside0.mk (below_step (kB2 HB GE140 GE165) hb); clear HO_4; clear HO_7; clear HO161; clear BK140; clear BK165; clear HB; have HO_4 := n0_; have HO_7 := n1_; have HO161 := n2_; have BK140 := n3_; have BK165 := n4_; have HB := n5_; clear n0_ n1_ n2_ n3_ n4_ n5_; (try clear hb); (try clear hb2); (try clear hk); (try clear hi)))
                    go_roundg k2
                    case measure => have := HK1.out; have := HK2.out; omega
                    case rel => exact ⟨(y163), (y159), H', ⟨by have := HK1.out; have := HK2.out; omega⟩, ⟨kR HO_4⟩, ⟨kR HO_7⟩, ⟨kR HO161⟩, ⟨kb BK140⟩, ⟨kB2 HB GE140 GE165⟩⟩
                  ·rw [if_neg c71] at H
                   exact absurd H (by simp)
                ·rw [if_neg c64] at H
                 exact absurd H (by simp)
               ·rw [if_neg c63] at H
                exact absurd H (by simp)
              ·rw [if_neg c62] at H
               exact absurd H (by simp)
             ·rw [if_neg c61] at H
              exact absurd H (by simp)
            ·rw [if_neg c60] at H
             exact absurd H (by simp)
           ·rw [if_neg c58] at H
            have c58b0 : decide (0 < (x8_2.length : Int)) = false := decide_eq_false c58
            have c58b1 : decide (0 < x8_2.length) = false := decide_eq_false (by omega)
            clear c58
            have H' := Aside0.mk H
            clear H
            obtain ⟨Ao100, co100, eo100⟩ := Kd.R_slice HO_8.out
            subst eo100
            have hcz101 := blk2 (w := wr) BK140.out
            go_wp2
            go_loopg [96] k2 (fun kq v96 w' => ∃ (x96_3 : Int), v96 = .int .i64 x96_3 ∧ Aside0 (trees_Shape.l2 kq x4_1 x7_2 (l0_1.length : Int) x96_3 = some (r1, r2)) ∧ Aside0 (kq ≤ k2) ∧ Aside0 (Kd.R (Kd.int .i64) 3 w' w.heap.size (fun _ => True) v142 x4_1) ∧ Aside0 (Kd.R Kd.bool 4 w' w.heap.size (fun _ => True) v153 x7_2) ∧ Aside0 (w'.heap[gb140]? = some (.cells #[.int .i64 a0_0, (.slice A0_1 l0_1.length c0_1)] 33 (0, 0))) ∧ Aside0 (Below w.heap.size w w'))
            case atStart => exact ⟨(0), kr, H', ⟨Nat.le_refl _⟩, ⟨by (with_reducible repeat (first | apply Kd.R_alloc | apply Kd.R_drewN | apply Kd.R_drew)); exact Kd.R_mono HO_4.out (fun _ hk => trivial)⟩, ⟨kR HO_7⟩, ⟨kb BK140⟩, ⟨kB1 HB GE140⟩⟩
            case round =>
             clear H'
             try clear c1
             try clear p1
             try clear q1
             try clear hx1
             try clear c2
             try clear c2b0
             try clear c2b1
             try clear c2b2
             try clear p2
             try clear q2
             try clear hx2
             try clear hf2
             try clear c3
             try clear c4
             try clear c5
             try clear c5b0
             try clear c5b1
             try clear c6
             try clear c6b0
             try clear c6b1
             try clear p6
             try clear q6
             try clear c7
             try clear p7
             try clear q7
             try clear hx7
             try clear hf7
             try clear c8
             try clear c9
             try clear q9
             try clear c12
             try clear c12b0
             try clear c13
             try clear c13b0
             try clear c14
             try clear c14b0
             try clear p14
             try clear q14
             try clear hx14
             try clear p15
             try clear q15
             try clear hx15
             try clear c16
             try clear p16
             try clear q16
             try clear hx16
             try clear c18
             try clear c19
             try clear c19b0
             try clear c20
             try clear c20b0
             try clear p21
             try clear q21
             try clear hx21
             try clear hf21
             try clear c22
             try clear c22b0
             try clear c23
             try clear c23b0
             try clear p24
             try clear q24
             try clear hx24
             try clear hf24
             try clear c26
             try clear c39
             try clear c40
             try clear c47
             try clear c51
             try clear c51b0
             try clear c51b1
             try clear c52
             try clear c52b0
             try clear c52b1
             try clear c53
             try clear c58
             try clear c58b0
             try clear c58b1
             try clear c60
             try clear c60b0
             try clear c61
             try clear c61b0
             try clear c62
             try clear c62b0
             try clear c62b1
             try clear c63
             try clear c63b0
             try clear c64
             try clear c64b0
             try clear p64
             try clear q65
             try clear c66
             try clear q68
             try clear p70
             try clear q70
             try clear hx70
             try clear hf70
             try clear c71
             try clear c71b0
             try clear c73
             try clear c74
             try clear q76
             try clear c82
             try clear q91
             try clear c97
             try clear hcz101
             try clear hcz11
             try clear hcz27
             try clear hcz28
             try clear hcz30
             try clear hcz32
             try clear hcz36
             try clear hcz41
             try clear hcz42
             try clear hcz44
             try clear hcz48
             try clear hcz49
             try clear hcz4
             try clear hcz53
             try clear hcz80
             try clear hcz83
             try clear hcz85
             try clear hcz8
             try clear hcz95
             try clear hcz98
             try clear hx144_0
             try clear hx144_1
             try clear hx144_2
             try clear hx144_3
             try clear hx144_4
             try clear hx144_5
             try clear hx144_6
             try clear hx144_7
             try clear hx148_0
             try clear hx150_0
             try clear hx158_0
             try clear hx162_0
             try clear hx164_0
             try clear hx164_1
             try clear hx164_2
             try clear hx164_3
             try clear hx164_4
             try clear hx164_5
             try clear hx164_6
             try clear hx164_7
             try clear hx21_0
             try clear hx24_0
             try clear hx70_0
             try clear p144
             try clear p148
             try clear p150
             try clear p158
             try clear p162
             try clear p164
             try clear q144
             try clear q148
             try clear q150
             try clear q158
             try clear q162
             try clear q164
             obtain ⟨x96_3, rfl, HA, HK3, HO_4, HO_7, BK140, HB⟩ := hrel
             cases gk with
             | zero => exact absurd HA.out (by simp [trees_Shape.l2])
             | succ k3 =>
              have H := HA.out
              clear HA
              simp only [trees_Shape.l2] at H
              by_cases c102 : x96_3 < (l0_1.length : Int)
              ·rw [if_pos c102] at H
               have c102b0 : decide (x96_3 < (l0_1.length : Int)) = true := decide_eq_true c102
               clear c102
               obtain ⟨ji103, hji103⟩ : ∃ j_ : Int, (mn x96_3 1) = j_ := ⟨_, rfl⟩
               replace H : (if 0 ≤ x96_3 then (if x96_3 < (x4_1.length : Int) then (if (rd x4_1 x96_3) = (ji103) then (if x96_3 < (x7_2.length : Int) then (if rdOf false x7_2 x96_3 = true then (trees_Shape.l2 k3 x4_1 x7_2 (l0_1.length : Int) (wrap64 (x96_3 + 1))) else (some (70, x96_3))) else (none)) else (some (70, x96_3))) else (none)) else (none)) = some (r1, r2) := by first | (rw [hji103] at H; exact H) | (simp only [hji103] at H ⊢; exact H)
               have hji103_ : (if 1 < x96_3 then 1 else x96_3) = ji103 := hji103
               by_cases c104 : 0 ≤ x96_3
               ·rw [if_pos c104] at H
                have c104b0 : decide (0 ≤ x96_3) = true := decide_eq_true c104
                clear c104
                by_cases c105 : x96_3 < (x4_1.length : Int)
                ·rw [if_pos c105] at H
                 have c105b0 : decide (x96_3 < (x4_1.length : Int)) = true := decide_eq_true c105
                 clear c105
                 by_cases c106 : (rd x4_1 x96_3) = (ji103)
                 ·rw [if_pos c106] at H
                  have c106b0 : ((rd x4_1 x96_3) == (ji103)) = true := beq_iff_eq.mpr c106
                  have c106b1 : ((rd x4_1 x96_3) != (ji103)) = false := bne_eq_false_iff_eq.mpr c106
                  clear c106
                  by_cases c107 : x96_3 < (x7_2.length : Int)
                  ·rw [if_pos c107] at H
                   have c107b0 : decide (x96_3 < (x7_2.length : Int)) = true := decide_eq_true c107
                   clear c107
                   obtain ⟨bq108, hbq108⟩ : ∃ b_ : Bool, b_ = (rdOf false x7_2 x96_3) := ⟨_, rfl⟩
                   replace H : (if bq108 = true then (trees_Shape.l2 k3 x4_1 x7_2 (l0_1.length : Int) (wrap64 (x96_3 + 1))) else (some (70, x96_3))) = some (r1, r2) := by rw [← hbq108] at H; exact H
                   have Nbq108 := Aside0.mk hbq108
                   clear hbq108
                   by_cases c109 : bq108 = true
                   ·subst c109
                    have H1 : (trees_Shape.l2 k3 x4_1 x7_2 (l0_1.length : Int) (wrap64 (x96_3 + 1))) = some (r1, r2) := by rw [if_pos rfl] at H; exact H
                    clear H
                    have H := H1
                    clear H1
                    have H' := Aside0.mk H
                    clear H
                    obtain ⟨Ao110, co110, eo110⟩ := Kd.R_slice HO_4.out
                    subst eo110
                    have p173 : 0 ≤ (x96_3 : Int) := of_decide_eq_true ka
                    have q173 : x96_3 < (x4_1.length : Int) := of_decide_eq_true ka
                    obtain ⟨ad173, e173, hx173_0⟩ := Kd.at_int (Kd.R_reads' HO_4.out).2.2 x96_3 p173 q173
                    cases e173
                    replace p173 := eq_true p173
                    replace q173 := eq_true q173
                    obtain ⟨Ao111, co111, eo111⟩ := Kd.R_slice HO_7.out
                    subst eo111
                    have p174 : 0 ≤ (x96_3 : Int) := of_decide_eq_true ka
                    have q174 : x96_3 < (x7_2.length : Int) := of_decide_eq_true ka
                    obtain ⟨ad174, e174, hx174_0⟩ := Kd.at_bool (Kd.R_reads' HO_7.out).2.2 x96_3 p174 q174
                    (try rw [← Nbq108.out] at hx174_0)
                    cases e174
                    replace p174 := eq_true p174
                    replace q174 := eq_true q174
                    go_wp2
                    go_roundg k3
                    case measure => have := HK1.out; have := HK2.out; have := HK3.out; omega
                    case rel => exact ⟨(wrap64 (x96_3 + 1)), kr, H', ⟨by have := HK1.out; have := HK2.out; have := HK3.out; omega⟩, ⟨kR HO_4⟩, ⟨kR HO_7⟩, ⟨kb BK140⟩, ⟨kB1 HB GE140⟩⟩
                   ·replace c109 := Bool.eq_false_iff.mpr c109
                    subst c109
                    have H1 : (some (70, x96_3)) = some (r1, r2) := by rw [if_neg (show ¬ (false = true) by decide)] at H; exact H
                    clear H
                    have H := H1
                    clear H1
                    simp only [Option.some.injEq, Prod.mk.injEq] at H
                    obtain ⟨rfl, rfl⟩ := H
                    obtain ⟨Ao112, co112, eo112⟩ := Kd.R_slice HO_4.out
                    subst eo112
                    have p173 : 0 ≤ (x96_3 : Int) := of_decide_eq_true ka
                    have q173 : x96_3 < (x4_1.length : Int) := of_decide_eq_true ka
                    obtain ⟨ad173, e173, hx173_0⟩ := Kd.at_int (Kd.R_reads' HO_4.out).2.2 x96_3 p173 q173
                    cases e173
                    replace p173 := eq_true p173
                    replace q173 := eq_true q173
                    obtain ⟨Ao113, co113, eo113⟩ := Kd.R_slice HO_7.out
                    subst eo113
                    have p174 : 0 ≤ (x96_3 : Int) := of_decide_eq_true ka
                    have q174 : x96_3 < (x7_2.length : Int) := of_decide_eq_true ka
                    obtain ⟨ad174, e174, hx174_0⟩ := Kd.at_bool (Kd.R_reads' HO_7.out).2.2 x96_3 p174 q174
                    (try rw [← Nbq108.out] at hx174_0)
                    cases e174
                    replace p174 := eq_true p174
                    replace q174 := eq_true q174
                    go_wp2
                    go_ret2
                    exact ⟨by first | rfl | (simp [errW_none, errW_some] <;> rfl) | (simp only [← hji103]; first | rfl | (simp [errW_none, errW_some] <;> rfl)) | (simp [*, errW_none, errW_some] <;> rfl), kB1 HB GE140⟩
                  ·rw [if_neg c107] at H
                   exact absurd H (by simp)
                 ·rw [if_neg c106] at H
                  have c106b0 : ((rd x4_1 x96_3) == (ji103)) = false := beq_eq_false_iff_ne.mpr c106
                  have c106b1 : ((rd x4_1 x96_3) != (ji103)) = true := bne_iff_ne.mpr c106
                  simp only [Option.some.injEq, Prod.mk.injEq] at H
                  obtain ⟨rfl, rfl⟩ := H
                  obtain ⟨Ao114, co114, eo114⟩ := Kd.R_slice HO_4.out
                  subst eo114
                  have p173 : 0 ≤ (x96_3 : Int) := of_decide_eq_true ka
                  have q173 : x96_3 < (x4_1.length : Int) := of_decide_eq_true ka
                  obtain ⟨ad173, e173, hx173_0⟩ := Kd.at_int (Kd.R_reads' HO_4.out).2.2 x96_3 p173 q173
                  cases e173
                  replace p173 := eq_true p173
                  replace q173 := eq_true q173
                  go_wp2
                  go_ret2
                  exact ⟨by first | rfl | (simp [errW_none, errW_some] <;> rfl) | (simp only [← hji103]; first | rfl | (simp [errW_none, errW_some] <;> rfl)) | (simp [*, errW_none, errW_some] <;> rfl), kB1 HB GE140⟩
                ·rw [if_neg c105] at H
                 exact absurd H (by simp)
               ·rw [if_neg c104] at H
                exact absurd H (by simp)
              ·rw [if_neg c102] at H
               have c102b0 : decide (x96_3 < (l0_1.length : Int)) = false := decide_eq_false c102
               clear c102
               simp only [Option.some.injEq, Prod.mk.injEq] at H
               obtain ⟨rfl, rfl⟩ := H
               go_wp2
               go_ret2
               exact ⟨by first | rfl | (simp [errW_none, errW_some] <;> rfl) | (simp [*, errW_none, errW_some] <;> rfl), kB1 HB GE140⟩
        ·rw [if_neg c52] at H
         exact absurd H (by simp)
       ·rw [if_neg c51] at H
        exact absurd H (by simp)
   ·rw [if_neg c6] at H
    exact absurd H (by simp)
  ·rw [if_neg c5] at H
   exact absurd H (by simp)
end Go.Proofs.YtglpjgbgomppjaaDoor.FAll
