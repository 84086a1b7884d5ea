-- written by fprint.sh, a program of ours over the kit's print: not by hand
import Derived.Test.YtkemfbocojoagaaDoorFAllx0
import Derived.Test.YtkemfbocojoagaaDoorFAllx3
namespace Go.Proofs.YtkemfbocojoagaaDoor.FAll
open Go.RowKit Go.Proofs.YtkemfbocojoagaaDoorW.PrintWords Go.Proofs.YtkemfbocojoagaaDoorW.PrintLast Go.Proofs.YtkemfbocojoagaaDoorW.PrintMore
attribute [local go_sem] feq_walk fne_walk flt_walk fle_walk fgt_walk fge_walk fint_walk fstore_walk run_f64bits max2_int min2_int max_two min_two max_three min_three max_four min_four   -- for this text's walks alone
set_option linter.unusedVariables false
set_option linter.unusedSimpArgs false
/-! ### thicketref07_Shape: function 32 -/
mutual
def thicketref07_Shape.l0 : Nat → Int → List Int → List (S66) → Int → Int → Int → List (S66) → Option (Int × Int)
 | 0, _, _, _, _, _, _, _ => none
 | k + 1, x4, x5, x21, x22, x23, x150000, x150001 => if x23 < x22 then (if 0 ≤ x23 then (if x23 < (x21.length : Int) then ((thicketref07_node.f k ((rd_T66 x21 x23).f0) ((rd_T66 x21 x23).f1) ((rd_T66 x21 x23).f2) ((rd_T66 x21 x23).f3) ((rd_T66 x21 x23).f4) ((rd_T66 x21 x23).f5) ((rd_T66 x21 x23).f6) ((rd_T66 x21 x23).f7) x4).bind fun t155 => (if t155 = true then (if ((rd_T66 x21 x23).f0) = 1 then (thicketref07_Shape.l0 k x4 x5 x21 x22 (wrap64 (x23 + 1)) x150000 x150001) else (if 0 ≤ ((rd_T66 x21 x23).f6) then (if ((rd_T66 x21 x23).f6) < (x5.length : Int) then ((some (x5.set (((rd_T66 x21 x23).f6) : Int).toNat (wrap64 ((rd x5 ((rd_T66 x21 x23).f6)) + 1)) : List Int)).bind fun y157 => (if 0 ≤ ((rd_T66 x21 x23).f7) then (if ((rd_T66 x21 x23).f7) < (x5.length : Int) then (thicketref07_Shape.l0 k x4 (y157.set (((rd_T66 x21 x23).f7) : Int).toNat (wrap64 ((rd y157 ((rd_T66 x21 x23).f7)) + 1))) x21 x22 (wrap64 (x23 + 1)) x150000 x150001) else (none)) else (none))) else (none)) else (none))) else (some (71, x23)))) else (none)) else (none)) else (if 0 ≤ x4 then (if (x4 : Int).toNat ≤ 281474976710656 then (thicketref07_Shape.l1 k x5 (List.replicate (x4 : Int).toNat false) (([0] : List Int)) x150000 x150001) else (none)) else (none))
def thicketref07_Shape.l1 : Nat → List Int → List Bool → List Int → Int → List (S66) → Option (Int × Int)
 | 0, _, _, _, _, _ => none
 | k + 1, x5, x8, x9, x150000, x150001 => if (x9.length : Int) > 0 then (if 0 ≤ (wrap64 ((x9.length : Int) - 1)) then (if (wrap64 ((x9.length : Int) - 1)) < (x9.length : Int) then (if (wrap64 ((x9.length : Int) - 1)) ≤ (x9.length : Int) then ((some (x9.take ((wrap64 ((x9.length : Int) - 1)) : Int).toNat : List Int)).bind fun y167 => (if 0 ≤ (rd x9 (wrap64 ((x9.length : Int) - 1))) then (if (rd x9 (wrap64 ((x9.length : Int) - 1))) < (x8.length : Int) then (if rdOf false x8 (rd x9 (wrap64 ((x9.length : Int) - 1))) = true then (thicketref07_Shape.l1 k x5 x8 y167 x150000 x150001) else ((some (x8.set ((rd x9 (wrap64 ((x9.length : Int) - 1))) : Int).toNat true : List Bool)).bind fun y171 => (if (rd x9 (wrap64 ((x9.length : Int) - 1))) < (x150001.length : Int) then (if ((rd_T66 x150001 (rd x9 (wrap64 ((x9.length : Int) - 1)))).f0) = 1 then (thicketref07_Shape.l1 k x5 y171 y167 x150000 x150001) else ((some (([(rd_T66 x150001 (rd x9 (wrap64 ((x9.length : Int) - 1)))).f6, (rd_T66 x150001 (rd x9 (wrap64 ((x9.length : Int) - 1)))).f7] : List Int) : List Int)).bind fun y174 => (if y167.length + y174.length < 17592186044416 then (thicketref07_Shape.l1 k x5 y171 (y167 ++ y174) x150000 x150001) else (none)))) else (none)))) else (none)) else (none))) else (none)) else (none)) else (none)) else (thicketref07_Shape.l2 k x5 x8 (x150001.length : Int) 0)
def thicketref07_Shape.l2 : Nat → List Int → List Bool → Int → Int → Option (Int × Int)
 | 0, _, _, _, _ => none
 | k + 1, x5, x8, x92, x93 => if x93 < x92 then (if x93 = 0 then (if 0 ≤ x93 then (if x93 < (x5.length : Int) then (if (rd x5 x93) = 0 then (if x93 > 0 then (if (rd x5 x93) = 1 then (if x93 < (x8.length : Int) then (if rdOf false x8 x93 = true then (thicketref07_Shape.l2 k x5 x8 x92 (wrap64 (x93 + 1))) else (some (70, x93))) else (none)) else (some (70, x93))) else (if x93 < (x8.length : Int) then (if rdOf false x8 x93 = true then (thicketref07_Shape.l2 k x5 x8 x92 (wrap64 (x93 + 1))) else (some (70, x93))) else (none))) else (some (70, x93))) else (none)) else (none)) else (if x93 > 0 then (if 0 ≤ x93 then (if x93 < (x5.length : Int) then (if (rd x5 x93) = 1 then (if x93 < (x8.length : Int) then (if rdOf false x8 x93 = true then (thicketref07_Shape.l2 k x5 x8 x92 (wrap64 (x93 + 1))) else (some (70, x93))) else (none)) else (some (70, x93))) else (none)) else (none)) else (if 0 ≤ x93 then (if x93 < (x8.length : Int) then (if rdOf false x8 x93 = true then (thicketref07_Shape.l2 k x5 x8 x92 (wrap64 (x93 + 1))) else (some (70, x93))) else (none)) else (none)))) else (some (0, 0))
end
def thicketref07_Shape.f (k : Nat) (a0_0 : Int) (l0_1 : List (S66)) : Option (Int × Int) := if (l0_1.length : Int) = 0 then (some (70, 0)) else (if 0 ≤ (l0_1.length : Int) then (if ((l0_1.length : Int) : Int).toNat ≤ 35184372088832 then (thicketref07_Shape.l0 k (l0_1.length : Int) (List.replicate ((l0_1.length : Int) : Int).toNat 0) l0_1 (l0_1.length : Int) 0 a0_0 l0_1) else (none)) else (none))
theorem thicketref07_Shape.mono_l : ∀ k, (∀ y0 y1 y2 y3 y4 y5 y6, LeO (thicketref07_Shape.l0 k y0 y1 y2 y3 y4 y5 y6) (thicketref07_Shape.l0 (k + 1) y0 y1 y2 y3 y4 y5 y6)) ∧ (∀ y0 y1 y2 y3 y4, LeO (thicketref07_Shape.l1 k y0 y1 y2 y3 y4) (thicketref07_Shape.l1 (k + 1) y0 y1 y2 y3 y4)) ∧ (∀ y0 y1 y2 y3, LeO (thicketref07_Shape.l2 k y0 y1 y2 y3) (thicketref07_Shape.l2 (k + 1) y0 y1 y2 y3))
 | 0 => ⟨fun _ _ _ _ _ _ _ r h => by simp [thicketref07_Shape.l0] at h, fun _ _ _ _ _ r h => by simp [thicketref07_Shape.l1] at h, fun _ _ _ _ r h => by simp [thicketref07_Shape.l2] at h⟩
 | k + 1 => by
  obtain ⟨ih0, ih1, ih2⟩ := thicketref07_Shape.mono_l k
  refine ⟨?_, ?_, ?_⟩
  ·intro y0 y1 y2 y3 y4 y5 y6
   unfold thicketref07_Shape.l0
   repeat' first
   | (with_reducible exact ih0 _ _ _ _ _ _ _)
   | (with_reducible exact ih1 _ _ _ _ _)
   | (with_reducible exact ih2 _ _ _ _)
   | (with_reducible exact thicketref07_node.mono _ _ _ _ _ _ _ _ _ _)
   | (with_reducible exact LeO.refl _)
   | (with_reducible exact LeO.none _)
   | (with_reducible refine LeO.ite ?_ ?_)
   | (with_reducible refine LeO.bind ?_ (fun _ => ?_))
   | exact ih0 _ _ _ _ _ _ _
   | exact ih1 _ _ _ _ _
   | exact ih2 _ _ _ _
   | exact thicketref07_node.mono _ _ _ _ _ _ _ _ _ _
   | exact LeO.none _
   | refine LeO.ite ?_ ?_
   | refine LeO.bind ?_ (fun _ => ?_)
  ·intro y0 y1 y2 y3 y4
   unfold thicketref07_Shape.l1
   repeat' first
   | (with_reducible exact ih0 _ _ _ _ _ _ _)
   | (with_reducible exact ih1 _ _ _ _ _)
   | (with_reducible exact ih2 _ _ _ _)
   | (with_reducible exact thicketref07_node.mono _ _ _ _ _ _ _ _ _ _)
   | (with_reducible exact LeO.refl _)
   | (with_reducible exact LeO.none _)
   | (with_reducible refine LeO.ite ?_ ?_)
   | (with_reducible refine LeO.bind ?_ (fun _ => ?_))
   | exact ih0 _ _ _ _ _ _ _
   | exact ih1 _ _ _ _ _
   | exact ih2 _ _ _ _
   | exact thicketref07_node.mono _ _ _ _ _ _ _ _ _ _
   | exact LeO.none _
   | refine LeO.ite ?_ ?_
   | refine LeO.bind ?_ (fun _ => ?_)
  ·intro y0 y1 y2 y3
   unfold thicketref07_Shape.l2
   repeat' first
   | (with_reducible exact ih0 _ _ _ _ _ _ _)
   | (with_reducible exact ih1 _ _ _ _ _)
   | (with_reducible exact ih2 _ _ _ _)
   | (with_reducible exact thicketref07_node.mono _ _ _ _ _ _ _ _ _ _)
   | (with_reducible exact LeO.refl _)
   | (with_reducible exact LeO.none _)
   | (with_reducible refine LeO.ite ?_ ?_)
   | (with_reducible refine LeO.bind ?_ (fun _ => ?_))
   | exact ih0 _ _ _ _ _ _ _
   | exact ih1 _ _ _ _ _
   | exact ih2 _ _ _ _
   | exact thicketref07_node.mono _ _ _ _ _ _ _ _ _ _
   | exact LeO.none _
   | refine LeO.ite ?_ ?_
   | refine LeO.bind ?_ (fun _ => ?_)
theorem thicketref07_Shape.mono : ∀ a0 a1 k, LeO (thicketref07_Shape.f k a0 a1) (thicketref07_Shape.f (k + 1) a0 a1) := by
 intro a0 a1 k
 obtain ⟨ih0, ih1, ih2⟩ := thicketref07_Shape.mono_l k
 unfold thicketref07_Shape.f
 repeat' first
   | (with_reducible exact ih0 _ _ _ _ _ _ _)
   | (with_reducible exact ih1 _ _ _ _ _)
   | (with_reducible exact ih2 _ _ _ _)
   | (with_reducible exact thicketref07_node.mono _ _ _ _ _ _ _ _ _ _)
   | (with_reducible exact LeO.refl _)
   | (with_reducible exact LeO.none _)
   | (with_reducible refine LeO.ite ?_ ?_)
   | (with_reducible refine LeO.bind ?_ (fun _ => ?_))
   | exact ih0 _ _ _ _ _ _ _
   | exact ih1 _ _ _ _ _
   | exact ih2 _ _ _ _
   | exact thicketref07_node.mono _ _ _ _ _ _ _ _ _ _
   | exact LeO.none _
   | refine LeO.ite ?_ ?_
   | refine LeO.bind ?_ (fun _ => ?_)
set_option maxHeartbeats 8000000 in
set_option maxRecDepth 100000 in
theorem thicketref07_Shape.calls (k : Nat) (a0_0 : Int) (A0_1 : Option Addr) (c0_1 : Nat) (l0_1 : List (S66)) (r1 : Int) (r2 : Int) (w : World) (hr0_1 : Kd.C k66 w A0_1 l0_1.length l0_1) (hc0_1 : l0_1.length ≤ c0_1) (h : thicketref07_Shape.f k a0_0 l0_1 = some (r1, r2)) :
  Calls Tryd.prog 32 #[.agg #[.int .i64 a0_0, .slice A0_1 l0_1.length c0_1]] w fun e w' => e = .returned (.tuple #[.int .i64 r1, .int .i64 r2]) ∧ Below w.heap.size w w' := by
 have hu36 := Tryd.underlying36
 have hu66 := Tryd.underlying66
 have HR0_1 := Aside0.mk hr0_1
 have HC0_1 := Aside0.mk hc0_1
 clear hr0_1 hc0_1
 have HB := Aside0.mk (Below.refl w.heap.size w)
 have H : (if (l0_1.length : Int) = 0 then (some (70, 0)) else (if 0 ≤ (l0_1.length : Int) then (if ((l0_1.length : Int) : Int).toNat ≤ 35184372088832 then (thicketref07_Shape.l0 k (l0_1.length : Int) (List.replicate ((l0_1.length : Int) : Int).toNat 0) l0_1 (l0_1.length : Int) 0 a0_0 l0_1) else (none)) else (none))) = some (r1, r2) := h
 clear h
 by_cases c2 : (l0_1.length : Int) = 0
 ·rw [if_pos c2] at H
  have c2b0 : ((l0_1.length : Int) == 0) = true := beq_iff_eq.mpr c2
  have c2b1 : ((l0_1.length : Int) != 0) = false := bne_eq_false_iff_eq.mpr c2
  clear c2
  simp only [Option.some.injEq, Prod.mk.injEq] at H
  obtain ⟨rfl, rfl⟩ := H
  go_enter Tryd.func32, Tryd.ntmps32
  go_wp2_with (first | ((with_reducible refine gate_dst (N := 1) rfl ?_); refine box_event ?hg (N := 1) ?hd (cs := #[.int .i64 a0_0, .slice A0_1 l0_1.length c0_1]) (t := 36) ?hr ?_; (case hd => rfl); (case hg => rfl); (case hr => first | (go_simp; done) | (go_simp; rfl)); intro gb149 hg w3 hbox hb; have n0_ := Aside0.mk (below_step (kB0 HB) hb); have n1_ := Aside0.mk (hbox); have n2_ := Aside0.mk ((kg hg (kB0 HB) : w.heap.size ≤ gb149)); have n3_ := Aside0.mk ((kg hg (kB0 HB) : w.heap.size ≤ gb149)); clear HB; have HB := n0_; have BK149 := n1_; have GW149 := n2_; have GE149 := n3_; clear n0_ n1_ n2_ n3_; clear hb hbox hg; have hcz4 := blk2 (w := w3) BK149.out))
  go_ret2
  exact ⟨by first | rfl | (simp [errW_none, errW_some] <;> rfl) | (simp [*, errW_none, errW_some] <;> rfl), kB1 HB GE149⟩
 ·rw [if_neg c2] at H
  have c2b0 : ((l0_1.length : Int) == 0) = false := beq_eq_false_iff_ne.mpr c2
  have c2b1 : ((l0_1.length : Int) != 0) = true := bne_iff_ne.mpr c2
  have c2b2 : ¬ (l0_1 = []) := fun h_ => c2 (by rw [h_]; rfl)
  by_cases c5 : 0 ≤ (l0_1.length : Int)
  ·rw [if_pos c5] at H
   have c5b0 := eq_true c5
   have c5b1 : decide (0 ≤ (l0_1.length : Int)) = true := decide_eq_true c5
   clear c5
   by_cases c6 : ((l0_1.length : Int) : Int).toNat ≤ 35184372088832
   ·rw [if_pos c6] at H
    have c6b0 := eq_true c6
    have c6b1 : decide (((l0_1.length : Int) : Int).toNat ≤ 35184372088832) = true := decide_eq_true c6
    clear c6
    obtain ⟨y150, hy150⟩ : ∃ y_ : List Int, y_ = (List.replicate ((l0_1.length : Int) : Int).toNat 0) := ⟨_, rfl⟩
    replace H : (thicketref07_Shape.l0 k (l0_1.length : Int) y150 l0_1 (l0_1.length : Int) 0 a0_0 l0_1) = some (r1, r2) := by first | (rw [hy150]; with_reducible exact H) | (have H2_ := (Option.bind_some _ _).symm.trans H; rw [hy150]; with_reducible exact H2_) | (have H2_ := (Option.bind_some _ _).symm.trans H; with_reducible exact H2_) | with_reducible exact H | (rw [hy150]; exact H) | exact H
    have Ny150 := Aside0.mk hy150
    clear hy150
    have H' := Aside0.mk H
    clear H
    go_enter Tryd.func32, Tryd.ntmps32
    go_wp2_with (first | ((with_reducible refine gate_dst (N := 1) rfl ?_); refine box_event ?hg (N := 1) ?hd (cs := #[.int .i64 a0_0, .slice A0_1 l0_1.length c0_1]) (t := 36) ?hr ?_; (case hd => rfl); (case hg => rfl); (case hr => first | (go_simp; done) | (go_simp; rfl)); intro gb149 hg w7 hbox hb; have n0_ := Aside0.mk (below_step (kB0 HB) hb); have n1_ := Aside0.mk (hbox); have n2_ := Aside0.mk ((kg hg (kB0 HB) : w.heap.size ≤ gb149)); have n3_ := Aside0.mk ((kg hg (kB0 HB) : w.heap.size ≤ gb149)); clear HB; have HB := n0_; have BK149 := n1_; have GW149 := n2_; have GE149 := n3_; clear n0_ n1_ n2_ n3_; clear hb hbox hg; have hcz8 := blk2 (w := w7) BK149.out) | ((with_reducible refine gate_dst (N := 19) rfl ?_); refine Kd.R_make (Kd.int .i64) _ 3 rfl (N := 19) rfl 63 _ _ rfl (l0_1.length : Int) rfl rfl Tryd.underlying63 (.int .i64 0) 8 info3 rfl (by decide) (by omega) 0 (ok := fun _ => True) (okp := fun _ => True) rfl (fun _ hk => hk) trivial (of_decide_eq_true ka) (Nat.le_trans (Nat.mul_le_mul_right _ (of_decide_eq_true ka : (l0_1.length : Int).toNat ≤ 35184372088832)) (by omega)) (Below.refl _ _) (Nat.le_refl _) ?_; intro v151 w9 ho10 hb hg_ hnew_; clear hg_ hnew_; (first | rw [← Ny150.out] at ho10 | (simp only [Int.reduceToNat] at ho10; rw [← Ny150.out] at ho10)); have n0_ := Aside0.mk (Kd.R_lower ho10 (below_size (kB1 HB GE149))); have n1_ := Aside0.mk (blk_below (g := gb149) (o := .cells #[.int .i64 a0_0, .slice A0_1 l0_1.length c0_1] 36 (0, 0)) (kb BK149) hb); have n2_ := Aside0.mk (below_step (kB1 HB GE149) hb); clear BK149; clear HB; have HO152 := n0_; have BK149 := n1_; have HB := n2_; clear n0_ n1_ n2_; clear hb ho10; have hcz11 := blk2 (w := w9) BK149.out))
    go_loopg [23] k (fun kq v23 w' => ∃ (x5_1 : List Int) (x23_1 : Int), v23 = .int .i64 x23_1 ∧ Aside0 (thicketref07_Shape.l0 kq (l0_1.length : Int) x5_1 l0_1 (l0_1.length : Int) x23_1 a0_0 l0_1 = some (r1, r2)) ∧ Aside0 (kq ≤ k) ∧ Aside0 (Kd.R (Kd.int .i64) 3 w' w.heap.size (fun _ => True) v151 x5_1) ∧ Aside0 (w'.heap[gb149]? = some (.cells #[.int .i64 a0_0, (.slice A0_1 l0_1.length c0_1)] 36 (0, 0))) ∧ Aside0 (Below w.heap.size w w'))
    case atStart => exact ⟨(y150), (0), kr, H', ⟨Nat.le_refl _⟩, ⟨kR HO152⟩, ⟨kb BK149⟩, ⟨kB1 HB GE149⟩⟩
    case round =>
     clear H'
     try clear c2
     try clear c2b0
     try clear c2b1
     try clear c2b2
     try clear p2
     try clear c3
     try clear c5
     try clear c5b0
     try clear c5b1
     try clear c6
     try clear c6b0
     try clear c6b1
     try clear hcz11
     try clear hcz4
     try clear hcz8
     obtain ⟨x5_1, x23_1, rfl, HA, HK1, HO_5, BK149, HB⟩ := hrel
     cases gk with
     | zero => exact absurd HA.out (by simp [thicketref07_Shape.l0])
     | succ k1 =>
      have H := HA.out
      clear HA
      simp only [thicketref07_Shape.l0] at H
      by_cases c12 : x23_1 < (l0_1.length : Int)
      ·rw [if_pos c12] at H
       have c12b0 : decide (x23_1 < (l0_1.length : Int)) = true := decide_eq_true c12
       clear c12
       by_cases c13 : 0 ≤ x23_1
       ·rw [if_pos c13] at H
        have c13b0 : decide (0 ≤ x23_1) = true := decide_eq_true c13
        clear c13
        by_cases c14 : x23_1 < (l0_1.length : Int)
        ·rw [if_pos c14] at H
         have c14b0 : decide (x23_1 < (l0_1.length : Int)) = true := decide_eq_true c14
         clear c14
         replace H := Option.bind_eq_some_iff.mp H
         obtain ⟨t155, A150, H⟩ := H
         replace H : (if t155 = true then (if ((rd_T66 l0_1 x23_1).f0) = 1 then (thicketref07_Shape.l0 k1 (l0_1.length : Int) x5_1 l0_1 (l0_1.length : Int) (wrap64 (x23_1 + 1)) a0_0 l0_1) else (if 0 ≤ ((rd_T66 l0_1 x23_1).f6) then (if ((rd_T66 l0_1 x23_1).f6) < (x5_1.length : Int) then ((some (x5_1.set (((rd_T66 l0_1 x23_1).f6) : Int).toNat (wrap64 ((rd x5_1 ((rd_T66 l0_1 x23_1).f6)) + 1)) : List Int)).bind fun y157 => (if 0 ≤ ((rd_T66 l0_1 x23_1).f7) then (if ((rd_T66 l0_1 x23_1).f7) < (x5_1.length : Int) then (thicketref07_Shape.l0 k1 (l0_1.length : Int) (y157.set (((rd_T66 l0_1 x23_1).f7) : Int).toNat (wrap64 ((rd y157 ((rd_T66 l0_1 x23_1).f7)) + 1))) l0_1 (l0_1.length : Int) (wrap64 (x23_1 + 1)) a0_0 l0_1) else (none)) else (none))) else (none)) else (none))) else (some (71, x23_1))) = some (r1, r2) := H
         have A15 := Aside0.mk A150
         clear A150
         by_cases c16 : t155 = true
         ·subst c16
          have H1 : (if ((rd_T66 l0_1 x23_1).f0) = 1 then (thicketref07_Shape.l0 k1 (l0_1.length : Int) x5_1 l0_1 (l0_1.length : Int) (wrap64 (x23_1 + 1)) a0_0 l0_1) else (if 0 ≤ ((rd_T66 l0_1 x23_1).f6) then (if ((rd_T66 l0_1 x23_1).f6) < (x5_1.length : Int) then ((some (x5_1.set (((rd_T66 l0_1 x23_1).f6) : Int).toNat (wrap64 ((rd x5_1 ((rd_T66 l0_1 x23_1).f6)) + 1)) : List Int)).bind fun y157 => (if 0 ≤ ((rd_T66 l0_1 x23_1).f7) then (if ((rd_T66 l0_1 x23_1).f7) < (x5_1.length : Int) then (thicketref07_Shape.l0 k1 (l0_1.length : Int) (y157.set (((rd_T66 l0_1 x23_1).f7) : Int).toNat (wrap64 ((rd y157 ((rd_T66 l0_1 x23_1).f7)) + 1))) l0_1 (l0_1.length : Int) (wrap64 (x23_1 + 1)) a0_0 l0_1) else (none)) else (none))) else (none)) else (none))) = some (r1, r2) := by rw [if_pos rfl] at H; exact H
          clear H
          have H := H1
          clear H1
          by_cases c17 : ((rd_T66 l0_1 x23_1).f0) = 1
          ·rw [if_pos c17] at H
           have c17b0 : (((rd_T66 l0_1 x23_1).f0) == 1) = true := beq_iff_eq.mpr c17
           have c17b1 : (((rd_T66 l0_1 x23_1).f0) != 1) = false := bne_eq_false_iff_eq.mpr c17
           clear c17
           have H' := Aside0.mk H
           clear H
           have p153 : 0 ≤ (x23_1 : Int) := of_decide_eq_true ka
           have q153 : x23_1 < (l0_1.length : Int) := of_decide_eq_true ka
           obtain ⟨ad153, A153_4, c153_4, e153, hx153_0, hx153_1, hx153_2, hx153_3, hx153_4, hx153_5, hx153_6, hx153_7, hl153_4, hi153_4⟩ := at_T66 HR0_1.out x23_1 p153 q153
           cases e153
           replace hx153_0 := (HB.out.cell (World.block_lt_of_cell? w _ hx153_0)).trans hx153_0
           replace hx153_1 := (HB.out.cell (World.block_lt_of_cell? w _ hx153_1)).trans hx153_1
           replace hx153_2 := (HB.out.cell (World.block_lt_of_cell? w _ hx153_2)).trans hx153_2
           replace hx153_3 := (HB.out.cell (World.block_lt_of_cell? w _ hx153_3)).trans hx153_3
           replace hx153_4 := (HB.out.cell (World.block_lt_of_cell? w _ hx153_4)).trans hx153_4
           replace hx153_5 := (HB.out.cell (World.block_lt_of_cell? w _ hx153_5)).trans hx153_5
           replace hx153_6 := (HB.out.cell (World.block_lt_of_cell? w _ hx153_6)).trans hx153_6
           replace hx153_7 := (HB.out.cell (World.block_lt_of_cell? w _ hx153_7)).trans hx153_7
           have HR153_4 := Aside0.mk hi153_4
           have HC153_4 := Aside0.mk hl153_4
           clear hi153_4 hl153_4
           replace p153 := eq_true p153
           replace q153 := eq_true q153
           go_wp2_with (first | ((with_reducible refine gate_dst (N := 7) rfl ?_); refine box_event ?hg (N := 7) ?hd (cs := #[.int .u8 0, .int .i64 0, .int .i64 0, .float .f64 0, .slice none 0 0, .int .u8 0, .int .i64 0, .int .i64 0]) (t := 66) ?hr ?_; (case hd => rfl); (case hg => rfl); (case hr => first | (go_simp; done) | (go_simp; rfl)); intro gb154 hg w18 hbox hb; have n0_ := Aside0.mk (Kd.R_below (kR HO_5) hb); have n1_ := Aside0.mk (blk_below (g := gb149) (o := .cells #[.int .i64 a0_0, .slice (some ad153) l0_1.length c0_1] 36 (0, 0)) (kb BK149) hb); have n2_ := Aside0.mk (below_step (kB1 HB GE149) hb); have n3_ := Aside0.mk (hbox); have n4_ := Aside0.mk ((kg hg (kB1 HB GE149) : w.heap.size ≤ gb154)); have n5_ := Aside0.mk ((kg hg (kB1 HB GE149) : w.heap.size ≤ gb154)); have n6_ := Aside0.mk ((by rw [hg]; exact Nat.ne_of_lt (blk_lt (g := gb149) (o := .cells #[.int .i64 a0_0, .slice (some ad153) l0_1.length c0_1] 36 (0, 0)) (kb BK149)) : gb149 ≠ gb154)); have n7_ := Aside0.mk ((by rw [hg]; exact Nat.ne_of_gt (blk_lt (g := gb149) (o := .cells #[.int .i64 a0_0, .slice (some ad153) l0_1.length c0_1] 36 (0, 0)) (kb BK149)) : gb154 ≠ gb149)); clear HO_5; clear BK149; clear HB; have HO_5 := n0_; have BK149 := n1_; have HB := n2_; have BK154 := n3_; have GW154 := n4_; have GE154 := n5_; have NB149_154 := n6_; have NB154_149 := n7_; clear n0_ n1_ n2_ n3_ n4_ n5_ n6_ n7_; clear hb hbox hg; have hnb19 := NB154_149.out; have hnc19 := NB149_154.out; have hcz20 := blk8 (w := w18) BK154.out) | ((with_reducible refine gate_callee (f := 52) rfl ?_); refine goesL_ (some 30) rfl rfl Tryd.func52 (by kernel_rfl) rfl #[.agg #[.int .u8 ((rd_T66 l0_1 x23_1).f0), .int .i64 ((rd_T66 l0_1 x23_1).f1), .int .i64 ((rd_T66 l0_1 x23_1).f2), .float .f64 ((rd_T66 l0_1 x23_1).f3), .slice A153_4 ((rd_T66 l0_1 x23_1).f4).length c153_4, .int .u8 ((rd_T66 l0_1 x23_1).f5), .int .i64 ((rd_T66 l0_1 x23_1).f6), .int .i64 ((rd_T66 l0_1 x23_1).f7)], .int .i64 (l0_1.length : Int)] rfl (by (try simp only [List.map_toArray, List.map_cons, List.map_nil]); first | done | rfl | (simp only [List.length_drop, List.length_take]; rfl)) ?_; (with_reducible refine (thicketref07_node.calls k1 ((rd_T66 l0_1 x23_1).f0) ((rd_T66 l0_1 x23_1).f1) ((rd_T66 l0_1 x23_1).f2) ((rd_T66 l0_1 x23_1).f3) _ _ ((rd_T66 l0_1 x23_1).f4) ((rd_T66 l0_1 x23_1).f5) ((rd_T66 l0_1 x23_1).f6) ((rd_T66 l0_1 x23_1).f7) (l0_1.length : Int) true _ ?side1 ?side2 A15.out).mono ?_); (case side1 => exact Kd.C_below HR153_4.out (kB2 HB GE149 GE154)); (case side2 => exact HC153_4.out); rintro e w21 ⟨rfl, hb⟩; refine ⟨_, rfl, ?_⟩; have n0_ := Aside0.mk (Kd.R_below (by (with_reducible repeat (first | apply Kd.R_alloc | apply Kd.R_drewN | apply Kd.R_drew)); exact (Kd.R_mono (Kd.R_far (p := ⟨gb154, 7, none⟩) (Kd.R_far (p := ⟨gb154, 6, none⟩) (Kd.R_far (p := ⟨gb154, 5, none⟩) (Kd.R_far (p := ⟨gb154, 4, none⟩) (Kd.R_far (p := ⟨gb154, 3, none⟩) (Kd.R_far (p := ⟨gb154, 2, none⟩) (Kd.R_far (p := ⟨gb154, 1, none⟩) (Kd.R_far (p := ⟨gb154, 0, none⟩) (Kd.R_types HO_5.out BK154.out (by decide)) (fun _ hk => hk.2) (.int .u8 ((rd_T66 l0_1 x23_1).f0))) (fun _ hk => hk.2) (.int .i64 ((rd_T66 l0_1 x23_1).f1))) (fun _ hk => hk.2) (.int .i64 ((rd_T66 l0_1 x23_1).f2))) (fun _ hk => hk.2) (.float .f64 ((rd_T66 l0_1 x23_1).f3))) (fun _ hk => hk.2) (.slice A153_4 ((rd_T66 l0_1 x23_1).f4).length c153_4)) (fun _ hk => hk.2) (.int .u8 ((rd_T66 l0_1 x23_1).f5))) (fun _ hk => hk.2) (.int .i64 ((rd_T66 l0_1 x23_1).f6))) (fun _ hk => hk.2) (.int .i64 ((rd_T66 l0_1 x23_1).f7))) (fun _ h_ => h_.1))) hb); have n1_ := Aside0.mk (blk_below (g := gb149) (o := .cells #[.int .i64 a0_0, .slice (some ad153) l0_1.length c0_1] 36 (0, 0)) (by (with_reducible repeat (first | refine blk_drewN ?_ _ | refine blk_drew ?_ | refine blk_alloc ?_ _)); refine blk_far ?_ NB149_154.out _; (with_reducible repeat (first | refine blk_drewN ?_ _ | refine blk_drew ?_ | refine blk_alloc ?_ _)); refine blk_far ?_ NB149_154.out _; (with_reducible repeat (first | refine blk_drewN ?_ _ | refine blk_drew ?_ | refine blk_alloc ?_ _)); refine blk_far ?_ NB149_154.out _; (with_reducible repeat (first | refine blk_drewN ?_ _ | refine blk_drew ?_ | refine blk_alloc ?_ _)); refine blk_far ?_ NB149_154.out _; (with_reducible repeat (first | refine blk_drewN ?_ _ | refine blk_drew ?_ | refine blk_alloc ?_ _)); refine blk_far ?_ NB149_154.out _; (with_reducible repeat (first | refine blk_drewN ?_ _ | refine blk_drew ?_ | refine blk_alloc ?_ _)); refine blk_far ?_ NB149_154.out _; (with_reducible repeat (first | refine blk_drewN ?_ _ | refine blk_drew ?_ | refine blk_alloc ?_ _)); refine blk_far ?_ NB149_154.out _; (with_reducible repeat (first | refine blk_drewN ?_ _ | refine blk_drew ?_ | refine blk_alloc ?_ _)); refine blk_far ?_ NB149_154.out _; (with_reducible repeat (first | refine blk_drewN ?_ _ | refine blk_drew ?_ | refine blk_alloc ?_ _)); exact BK149.out) hb); have n2_ := Aside0.mk (blk_below (g := gb154) (o := .cells #[.int .u8 ((rd_T66 l0_1 x23_1).f0), .int .i64 ((rd_T66 l0_1 x23_1).f1), .int .i64 ((rd_T66 l0_1 x23_1).f2), .float .f64 ((rd_T66 l0_1 x23_1).f3), .slice A153_4 ((rd_T66 l0_1 x23_1).f4).length c153_4, .int .u8 ((rd_T66 l0_1 x23_1).f5), .int .i64 ((rd_T66 l0_1 x23_1).f6), .int .i64 ((rd_T66 l0_1 x23_1).f7)] 66 (0, 0)) (by (with_reducible repeat (first | refine blk_drewN ?_ _ | refine blk_drew ?_ | refine blk_alloc ?_ _)); refine blk_put (cs := #[.int .u8 ((rd_T66 l0_1 x23_1).f0), .int .i64 ((rd_T66 l0_1 x23_1).f1), .int .i64 ((rd_T66 l0_1 x23_1).f2), .float .f64 ((rd_T66 l0_1 x23_1).f3), .slice A153_4 ((rd_T66 l0_1 x23_1).f4).length c153_4, .int .u8 ((rd_T66 l0_1 x23_1).f5), .int .i64 ((rd_T66 l0_1 x23_1).f6), .int .i64 0]) ?_ 7 _ rfl; (with_reducible repeat (first | refine blk_drewN ?_ _ | refine blk_drew ?_ | refine blk_alloc ?_ _)); refine blk_put (cs := #[.int .u8 ((rd_T66 l0_1 x23_1).f0), .int .i64 ((rd_T66 l0_1 x23_1).f1), .int .i64 ((rd_T66 l0_1 x23_1).f2), .float .f64 ((rd_T66 l0_1 x23_1).f3), .slice A153_4 ((rd_T66 l0_1 x23_1).f4).length c153_4, .int .u8 ((rd_T66 l0_1 x23_1).f5), .int .i64 0, .int .i64 0]) ?_ 6 _ rfl; (with_reducible repeat (first | refine blk_drewN ?_ _ | refine blk_drew ?_ | refine blk_alloc ?_ _)); refine blk_put (cs := #[.int .u8 ((rd_T66 l0_1 x23_1).f0), .int .i64 ((rd_T66 l0_1 x23_1).f1), .int .i64 ((rd_T66 l0_1 x23_1).f2), .float .f64 ((rd_T66 l0_1 x23_1).f3), .slice A153_4 ((rd_T66 l0_1 x23_1).f4).length c153_4, .int .u8 0, .int .i64 0, .int .i64 0]) ?_ 5 _ rfl; (with_reducible repeat (first | refine blk_drewN ?_ _ | refine blk_drew ?_ | refine blk_alloc ?_ _)); refine blk_put (cs := #[.int .u8 ((rd_T66 l0_1 x23_1).f0), .int .i64 ((rd_T66 l0_1 x23_1).f1), .int .i64 ((rd_T66 l0_1 x23_1).f2), .float .f64 ((rd_T66 l0_1 x23_1).f3), .slice none 0 0, .int .u8 0, .int .i64 0, .int .i64 0]) ?_ 4 _ rfl; (with_reducible repeat (first | refine blk_drewN ?_ _ | refine blk_drew ?_ | refine blk_alloc ?_ _)); refine blk_put (cs := #[.int .u8 ((rd_T66 l0_1 x23_1).f0), .int .i64 ((rd_T66 l0_1 x23_1).f1), .int .i64 ((rd_T66 l0_1 x23_1).f2), .float .f64 0, .slice none 0 0, .int .u8 0, .int .i64 0, .int .i64 0]) ?_ 3 _ rfl; (with_reducible repeat (first | refine blk_drewN ?_ _ | refine blk_drew ?_ | refine blk_alloc ?_ _)); refine blk_put (cs := #[.int .u8 ((rd_T66 l0_1 x23_1).f0), .int .i64 ((rd_T66 l0_1 x23_1).f1), .int .i64 0, .float .f64 0, .slice none 0 0, .int .u8 0, .int .i64 0, .int .i64 0]) ?_ 2 _ rfl; (with_reducible repeat (first | refine blk_drewN ?_ _ | refine blk_drew ?_ | refine blk_alloc ?_ _)); refine blk_put (cs := #[.int .u8 ((rd_T66 l0_1 x23_1).f0), .int .i64 0, .int .i64 0, .float .f64 0, .slice none 0 0, .int .u8 0, .int .i64 0, .int .i64 0]) ?_ 1 _ rfl; (with_reducible repeat (first | refine blk_drewN ?_ _ | refine blk_drew ?_ | refine blk_alloc ?_ _)); refine blk_put (cs := #[.int .u8 0, .int .i64 0, .int .i64 0, .float .f64 0, .slice none 0 0, .int .u8 0, .int .i64 0, .int .i64 0]) ?_ 0 _ rfl; (with_reducible repeat (first | refine blk_drewN ?_ _ | refine blk_drew ?_ | refine blk_alloc ?_ _)); exact BK154.out) hb); have n3_ := Aside0.mk (below_step (kB2 HB GE149 GE154) hb); clear HO_5; clear BK149; clear BK154; clear HB; have HO_5 := n0_; have BK149 := n1_; have BK154 := n2_; have HB := n3_; clear n0_ n1_ n2_ n3_; (try clear hb); (try clear hb2); (try clear hk); (try clear hi); have hcz22 := blk8 (w := w21) BK154.out))
           go_roundg k1
           case measure => have := HK1.out; omega
           case rel => exact ⟨(x5_1), (wrap64 (x23_1 + 1)), kr, H', ⟨by have := HK1.out; omega⟩, ⟨kR HO_5⟩, ⟨kb BK149⟩, ⟨kB2 HB GE149 GE154⟩⟩
          ·rw [if_neg c17] at H
           have c17b0 : (((rd_T66 l0_1 x23_1).f0) == 1) = false := beq_eq_false_iff_ne.mpr c17
           have c17b1 : (((rd_T66 l0_1 x23_1).f0) != 1) = true := bne_iff_ne.mpr c17
           by_cases c23 : 0 ≤ ((rd_T66 l0_1 x23_1).f6)
           ·rw [if_pos c23] at H
            have c23b0 : decide (0 ≤ ((rd_T66 l0_1 x23_1).f6)) = true := decide_eq_true c23
            clear c23
            by_cases c24 : ((rd_T66 l0_1 x23_1).f6) < (x5_1.length : Int)
            ·rw [if_pos c24] at H
             have c24b0 : decide (((rd_T66 l0_1 x23_1).f6) < (x5_1.length : Int)) = true := decide_eq_true c24
             clear c24
             obtain ⟨y157, hy157⟩ : ∃ y_ : List Int, y_ = (x5_1.set (((rd_T66 l0_1 x23_1).f6) : Int).toNat (wrap64 ((rd x5_1 ((rd_T66 l0_1 x23_1).f6)) + 1))) := ⟨_, rfl⟩
             replace H : (if 0 ≤ ((rd_T66 l0_1 x23_1).f7) then (if ((rd_T66 l0_1 x23_1).f7) < (x5_1.length : Int) then (thicketref07_Shape.l0 k1 (l0_1.length : Int) (y157.set (((rd_T66 l0_1 x23_1).f7) : Int).toNat (wrap64 ((rd y157 ((rd_T66 l0_1 x23_1).f7)) + 1))) l0_1 (l0_1.length : Int) (wrap64 (x23_1 + 1)) a0_0 l0_1) else (none)) else (none)) = some (r1, r2) := by first | (rw [hy157]; with_reducible exact H) | (have H2_ := (Option.bind_some _ _).symm.trans H; rw [hy157]; with_reducible exact H2_) | (have H2_ := (Option.bind_some _ _).symm.trans H; with_reducible exact H2_) | with_reducible exact H | (rw [hy157]; exact H) | exact H
             have Ny157 := Aside0.mk hy157
             clear hy157
             by_cases c26 : 0 ≤ ((rd_T66 l0_1 x23_1).f7)
             ·rw [if_pos c26] at H
              have c26b0 : decide (0 ≤ ((rd_T66 l0_1 x23_1).f7)) = true := decide_eq_true c26
              clear c26
              by_cases c27 : ((rd_T66 l0_1 x23_1).f7) < (x5_1.length : Int)
              ·rw [if_pos c27] at H
               have c27b0 : decide (((rd_T66 l0_1 x23_1).f7) < (x5_1.length : Int)) = true := decide_eq_true c27
               clear c27
               obtain ⟨y159, hy159⟩ : ∃ y_ : List Int, y_ = (y157.set (((rd_T66 l0_1 x23_1).f7) : Int).toNat (wrap64 ((rd y157 ((rd_T66 l0_1 x23_1).f7)) + 1))) := ⟨_, rfl⟩
               replace H : (thicketref07_Shape.l0 k1 (l0_1.length : Int) y159 l0_1 (l0_1.length : Int) (wrap64 (x23_1 + 1)) a0_0 l0_1) = some (r1, r2) := by first | (rw [hy159]; with_reducible exact H) | (have H2_ := (Option.bind_some _ _).symm.trans H; rw [hy159]; with_reducible exact H2_) | (have H2_ := (Option.bind_some _ _).symm.trans H; with_reducible exact H2_) | with_reducible exact H | (rw [hy159]; exact H) | exact H
               have Ny159 := Aside0.mk hy159
               clear hy159
               have H' := Aside0.mk H
               clear H
               have p153 : 0 ≤ (x23_1 : Int) := of_decide_eq_true ka
               have q153 : x23_1 < (l0_1.length : Int) := of_decide_eq_true ka
               obtain ⟨ad153, A153_4, c153_4, e153, hx153_0, hx153_1, hx153_2, hx153_3, hx153_4, hx153_5, hx153_6, hx153_7, hl153_4, hi153_4⟩ := at_T66 HR0_1.out x23_1 p153 q153
               cases e153
               replace hx153_0 := (HB.out.cell (World.block_lt_of_cell? w _ hx153_0)).trans hx153_0
               replace hx153_1 := (HB.out.cell (World.block_lt_of_cell? w _ hx153_1)).trans hx153_1
               replace hx153_2 := (HB.out.cell (World.block_lt_of_cell? w _ hx153_2)).trans hx153_2
               replace hx153_3 := (HB.out.cell (World.block_lt_of_cell? w _ hx153_3)).trans hx153_3
               replace hx153_4 := (HB.out.cell (World.block_lt_of_cell? w _ hx153_4)).trans hx153_4
               replace hx153_5 := (HB.out.cell (World.block_lt_of_cell? w _ hx153_5)).trans hx153_5
               replace hx153_6 := (HB.out.cell (World.block_lt_of_cell? w _ hx153_6)).trans hx153_6
               replace hx153_7 := (HB.out.cell (World.block_lt_of_cell? w _ hx153_7)).trans hx153_7
               have HR153_4 := Aside0.mk hi153_4
               have HC153_4 := Aside0.mk hl153_4
               clear hi153_4 hl153_4
               replace p153 := eq_true p153
               replace q153 := eq_true q153
               go_wp2_with (first | ((with_reducible refine gate_dst (N := 7) rfl ?_); refine box_event ?hg (N := 7) ?hd (cs := #[.int .u8 0, .int .i64 0, .int .i64 0, .float .f64 0, .slice none 0 0, .int .u8 0, .int .i64 0, .int .i64 0]) (t := 66) ?hr ?_; (case hd => rfl); (case hg => rfl); (case hr => first | (go_simp; done) | (go_simp; rfl)); intro gb154 hg w29 hbox hb; have n0_ := Aside0.mk (Kd.R_below (kR HO_5) hb); have n1_ := Aside0.mk (blk_below (g := gb149) (o := .cells #[.int .i64 a0_0, .slice (some ad153) l0_1.length c0_1] 36 (0, 0)) (kb BK149) hb); have n2_ := Aside0.mk (below_step (kB1 HB GE149) hb); have n3_ := Aside0.mk (hbox); have n4_ := Aside0.mk ((kg hg (kB1 HB GE149) : w.heap.size ≤ gb154)); have n5_ := Aside0.mk ((kg hg (kB1 HB GE149) : w.heap.size ≤ gb154)); have n6_ := Aside0.mk ((by rw [hg]; exact Nat.ne_of_lt (blk_lt (g := gb149) (o := .cells #[.int .i64 a0_0, .slice (some ad153) l0_1.length c0_1] 36 (0, 0)) (kb BK149)) : gb149 ≠ gb154)); have n7_ := Aside0.mk ((by rw [hg]; exact Nat.ne_of_gt (blk_lt (g := gb149) (o := .cells #[.int .i64 a0_0, .slice (some ad153) l0_1.length c0_1] 36 (0, 0)) (kb BK149)) : gb154 ≠ gb149)); clear HO_5; clear BK149; clear HB; have HO_5 := n0_; have BK149 := n1_; have HB := n2_; have BK154 := n3_; have GW154 := n4_; have GE154 := n5_; have NB149_154 := n6_; have NB154_149 := n7_; clear n0_ n1_ n2_ n3_ n4_ n5_ n6_ n7_; clear hb hbox hg; have hnb30 := NB154_149.out; have hnc30 := NB149_154.out; have hcz31 := blk8 (w := w29) BK154.out) | ((with_reducible refine gate_callee (f := 52) rfl ?_); refine goesL_ (some 30) rfl rfl Tryd.func52 (by kernel_rfl) rfl #[.agg #[.int .u8 ((rd_T66 l0_1 x23_1).f0), .int .i64 ((rd_T66 l0_1 x23_1).f1), .int .i64 ((rd_T66 l0_1 x23_1).f2), .float .f64 ((rd_T66 l0_1 x23_1).f3), .slice A153_4 ((rd_T66 l0_1 x23_1).f4).length c153_4, .int .u8 ((rd_T66 l0_1 x23_1).f5), .int .i64 ((rd_T66 l0_1 x23_1).f6), .int .i64 ((rd_T66 l0_1 x23_1).f7)], .int .i64 (l0_1.length : Int)] rfl (by (try simp only [List.map_toArray, List.map_cons, List.map_nil]); first | done | rfl | (simp only [List.length_drop, List.length_take]; rfl)) ?_; (with_reducible refine (thicketref07_node.calls k1 ((rd_T66 l0_1 x23_1).f0) ((rd_T66 l0_1 x23_1).f1) ((rd_T66 l0_1 x23_1).f2) ((rd_T66 l0_1 x23_1).f3) _ _ ((rd_T66 l0_1 x23_1).f4) ((rd_T66 l0_1 x23_1).f5) ((rd_T66 l0_1 x23_1).f6) ((rd_T66 l0_1 x23_1).f7) (l0_1.length : Int) true _ ?side1 ?side2 A15.out).mono ?_); (case side1 => exact Kd.C_below HR153_4.out (kB2 HB GE149 GE154)); (case side2 => exact HC153_4.out); rintro e w32 ⟨rfl, hb⟩; refine ⟨_, rfl, ?_⟩; have n0_ := Aside0.mk (Kd.R_below (by (with_reducible repeat (first | apply Kd.R_alloc | apply Kd.R_drewN | apply Kd.R_drew)); exact (Kd.R_mono (Kd.R_far (p := ⟨gb154, 7, none⟩) (Kd.R_far (p := ⟨gb154, 6, none⟩) (Kd.R_far (p := ⟨gb154, 5, none⟩) (Kd.R_far (p := ⟨gb154, 4, none⟩) (Kd.R_far (p := ⟨gb154, 3, none⟩) (Kd.R_far (p := ⟨gb154, 2, none⟩) (Kd.R_far (p := ⟨gb154, 1, none⟩) (Kd.R_far (p := ⟨gb154, 0, none⟩) (Kd.R_types HO_5.out BK154.out (by decide)) (fun _ hk => hk.2) (.int .u8 ((rd_T66 l0_1 x23_1).f0))) (fun _ hk => hk.2) (.int .i64 ((rd_T66 l0_1 x23_1).f1))) (fun _ hk => hk.2) (.int .i64 ((rd_T66 l0_1 x23_1).f2))) (fun _ hk => hk.2) (.float .f64 ((rd_T66 l0_1 x23_1).f3))) (fun _ hk => hk.2) (.slice A153_4 ((rd_T66 l0_1 x23_1).f4).length c153_4)) (fun _ hk => hk.2) (.int .u8 ((rd_T66 l0_1 x23_1).f5))) (fun _ hk => hk.2) (.int .i64 ((rd_T66 l0_1 x23_1).f6))) (fun _ hk => hk.2) (.int .i64 ((rd_T66 l0_1 x23_1).f7))) (fun _ h_ => h_.1))) hb); have n1_ := Aside0.mk (blk_below (g := gb149) (o := .cells #[.int .i64 a0_0, .slice (some ad153) l0_1.length c0_1] 36 (0, 0)) (by (with_reducible repeat (first | refine blk_drewN ?_ _ | refine blk_drew ?_ | refine blk_alloc ?_ _)); refine blk_far ?_ NB149_154.out _; (with_reducible repeat (first | refine blk_drewN ?_ _ | refine blk_drew ?_ | refine blk_alloc ?_ _)); refine blk_far ?_ NB149_154.out _; (with_reducible repeat (first | refine blk_drewN ?_ _ | refine blk_drew ?_ | refine blk_alloc ?_ _)); refine blk_far ?_ NB149_154.out _; (with_reducible repeat (first | refine blk_drewN ?_ _ | refine blk_drew ?_ | refine blk_alloc ?_ _)); refine blk_far ?_ NB149_154.out _; (with_reducible repeat (first | refine blk_drewN ?_ _ | refine blk_drew ?_ | refine blk_alloc ?_ _)); refine blk_far ?_ NB149_154.out _; (with_reducible repeat (first | refine blk_drewN ?_ _ | refine blk_drew ?_ | refine blk_alloc ?_ _)); refine blk_far ?_ NB149_154.out _; (with_reducible repeat (first | refine blk_drewN ?_ _ | refine blk_drew ?_ | refine blk_alloc ?_ _)); refine blk_far ?_ NB149_154.out _; (with_reducible repeat (first | refine blk_drewN ?_ _ | refine blk_drew ?_ | refine blk_alloc ?_ _)); refine blk_far ?_ NB149_154.out _; (with_reducible repeat (first | refine blk_drewN ?_ _ | refine blk_drew ?_ | refine blk_alloc ?_ _)); exact BK149.out) hb); have n2_ := Aside0.mk (blk_below (g := gb154) (o := .cells #[.int .u8 ((rd_T66 l0_1 x23_1).f0), .int .i64 ((rd_T66 l0_1 x23_1).f1), .int .i64 ((rd_T66 l0_1 x23_1).f2), .float .f64 ((rd_T66 l0_1 x23_1).f3), .slice A153_4 ((rd_T66 l0_1 x23_1).f4).length c153_4, .int .u8 ((rd_T66 l0_1 x23_1).f5), .int .i64 ((rd_T66 l0_1 x23_1).f6), .int .i64 ((rd_T66 l0_1 x23_1).f7)] 66 (0, 0)) (by (with_reducible repeat (first | refine blk_drewN ?_ _ | refine blk_drew ?_ | refine blk_alloc ?_ _)); refine blk_put (cs := #[.int .u8 ((rd_T66 l0_1 x23_1).f0), .int .i64 ((rd_T66 l0_1 x23_1).f1), .int .i64 ((rd_T66 l0_1 x23_1).f2), .float .f64 ((rd_T66 l0_1 x23_1).f3), .slice A153_4 ((rd_T66 l0_1 x23_1).f4).length c153_4, .int .u8 ((rd_T66 l0_1 x23_1).f5), .int .i64 ((rd_T66 l0_1 x23_1).f6), .int .i64 0]) ?_ 7 _ rfl; (with_reducible repeat (first | refine blk_drewN ?_ _ | refine blk_drew ?_ | refine blk_alloc ?_ _)); refine blk_put (cs := #[.int .u8 ((rd_T66 l0_1 x23_1).f0), .int .i64 ((rd_T66 l0_1 x23_1).f1), .int .i64 ((rd_T66 l0_1 x23_1).f2), .float .f64 ((rd_T66 l0_1 x23_1).f3), .slice A153_4 ((rd_T66 l0_1 x23_1).f4).length c153_4, .int .u8 ((rd_T66 l0_1 x23_1).f5), .int .i64 0, .int .i64 0]) ?_ 6 _ rfl; (with_reducible repeat (first | refine blk_drewN ?_ _ | refine blk_drew ?_ | refine blk_alloc ?_ _)); refine blk_put (cs := #[.int .u8 ((rd_T66 l0_1 x23_1).f0), .int .i64 ((rd_T66 l0_1 x23_1).f1), .int .i64 ((rd_T66 l0_1 x23_1).f2), .float .f64 ((rd_T66 l0_1 x23_1).f3), .slice A153_4 ((rd_T66 l0_1 x23_1).f4).length c153_4, .int .u8 0, .int .i64 0, .int .i64 0]) ?_ 5 _ rfl; (with_reducible repeat (first | refine blk_drewN ?_ _ | refine blk_drew ?_ | refine blk_alloc ?_ _)); refine blk_put (cs := #[.int .u8 ((rd_T66 l0_1 x23_1).f0), .int .i64 ((rd_T66 l0_1 x23_1).f1), .int .i64 ((rd_T66 l0_1 x23_1).f2), .float .f64 ((rd_T66 l0_1 x23_1).f3), .slice none 0 0, .int .u8 0, .int .i64 0, .int .i64 0]) ?_ 4 _ rfl; (with_reducible repeat (first | refine blk_drewN ?_ _ | refine blk_drew ?_ | refine blk_alloc ?_ _)); refine blk_put (cs := #[.int .u8 ((rd_T66 l0_1 x23_1).f0), .int .i64 ((rd_T66 l0_1 x23_1).f1), .int .i64 ((rd_T66 l0_1 x23_1).f2), .float .f64 0, .slice none 0 0, .int .u8 0, .int .i64 0, .int .i64 0]) ?_ 3 _ rfl; (with_reducible repeat (first | refine blk_drewN ?_ _ | refine blk_drew ?_ | refine blk_alloc ?_ _)); refine blk_put (cs := #[.int .u8 ((rd_T66 l0_1 x23_1).f0), .int .i64 ((rd_T66 l0_1 x23_1).f1), .int .i64 0, .float .f64 0, .slice none 0 0, .int .u8 0, .int .i64 0, .int .i64 0]) ?_ 2 _ rfl; (with_reducible repeat (first | refine blk_drewN ?_ _ | refine blk_drew ?_ | refine blk_alloc ?_ _)); refine blk_put (cs := #[.int .u8 ((rd_T66 l0_1 x23_1).f0), .int .i64 0, .int .i64 0, .float .f64 0, .slice none 0 0, .int .u8 0, .int .i64 0, .int .i64 0]) ?_ 1 _ rfl; (with_reducible repeat (first | refine blk_drewN ?_ _ | refine blk_drew ?_ | refine blk_alloc ?_ _)); refine blk_put (cs := #[.int .u8 0, .int .i64 0, .int .i64 0, .float .f64 0, .slice none 0 0, .int .u8 0, .int .i64 0, .int .i64 0]) ?_ 0 _ rfl; (with_reducible repeat (first | refine blk_drewN ?_ _ | refine blk_drew ?_ | refine blk_alloc ?_ _)); exact BK154.out) hb); have n3_ := Aside0.mk (below_step (kB2 HB GE149 GE154) hb); clear HO_5; clear BK149; clear BK154; clear HB; have HO_5 := n0_; have BK149 := n1_; have BK154 := n2_; have HB := n3_; clear n0_ n1_ n2_ n3_; (try clear hb); (try clear hb2); (try clear hk); (try clear hi); have hcz33 := blk8 (w := w32) BK154.out; obtain ⟨Ao34, co34, eo34⟩ := Kd.R_slice HO_5.out; subst eo34; have p156 : 0 ≤ (((rd_T66 l0_1 x23_1).f6) : Int) := of_decide_eq_true ka; have q156 : ((rd_T66 l0_1 x23_1).f6) < (x5_1.length : Int) := of_decide_eq_true ka; obtain ⟨ad156, e156, hx156_0⟩ := Kd.at_int (Kd.R_reads' HO_5.out).2.2 ((rd_T66 l0_1 x23_1).f6) p156 q156; cases e156; replace p156 := eq_true p156; replace q156 := eq_true q156; have p25 : 0 ≤ (((rd_T66 l0_1 x23_1).f6) : Int) := of_decide_eq_true ka; have q25 : (((rd_T66 l0_1 x23_1).f6) : Int) < ((x5_1.length : Int) : Int) := of_decide_eq_true ka; obtain ⟨go25, co25, eo25, gb25, gl25, cl25, HG25⟩ := Kd.R_form HO_5.out (by omega); (first | cases eo25 | (injection eo25 with ea_ en_ ec_; (first | subst ea_ | (injection ea_ with ea_; subst ea_)); subst ec_; clear en_)); have GB25 := Aside0.mk gb25; have GG25 := Aside0.mk HG25; clear gb25 gl25 HG25; (first | simp only [add_plain] at hx156_0 | skip); obtain ⟨hx25_0, hf25_0⟩ := Kd.R_celln 0 HO_5.out (((rd_T66 l0_1 x23_1).f6) : Int) p25 q25; replace p25 := eq_true p25; replace q25 := eq_true q25; obtain ⟨hy35_, hz35_⟩ := Kd.R_celln 0 HO_5.out (((rd_T66 l0_1 x23_1).f6) : Int) (of_decide_eq_true ka) (of_decide_eq_true ka); have HP35 := Kd.R_putg HO_5.out (((rd_T66 l0_1 x23_1).f6) : Int) (wrap64 ((rd x5_1 ((rd_T66 l0_1 x23_1).f6)) + 1))) | ((with_reducible refine gate_store (t := 3) (p := 42) rfl ?_); refine store_event (t := 3) (p := 42) (v := ?vo_w36) (w1 := (w32.setCell ⟨go25, (((rd_T66 l0_1 x23_1).f6) : Int).toNat, none⟩ (.int .i64 (wrap64 ((rd x5_1 ((rd_T66 l0_1 x23_1).f6)) + 1))))) ?hg ?ho ?hn ?hr ?_; (case ho => rfl); (case hg => rfl); (case hn => rfl); (case hr => first | (go_simp; done) | (go_simp; rfl)); intro w36 hw; have hg : w32.grownBy w36 (some go25) := (by rw [hw]; exact HP35.2); have hp_ : Kd.R (Kd.int .i64) 3 w36 w.heap.size (fun _ => True) (.slice (some ⟨go25, 0, none⟩) x5_1.length co34) y157 := (by rw [hw, Ny157.out]; exact HP35.1); clear HP35; have n0_ := Aside0.mk (hp_); have n1_ := Aside0.mk (blk_grown (g := gb149) (o := .cells #[.int .i64 a0_0, .slice (some ad153) l0_1.length c0_1] 36 (0, 0)) (kb BK149) hg (Kd.R_ne HO_5.out BK149.out (by decide))); have n2_ := Aside0.mk (blk_grown (g := gb154) (o := .cells #[.int .u8 ((rd_T66 l0_1 x23_1).f0), .int .i64 ((rd_T66 l0_1 x23_1).f1), .int .i64 ((rd_T66 l0_1 x23_1).f2), .float .f64 ((rd_T66 l0_1 x23_1).f3), .slice A153_4 ((rd_T66 l0_1 x23_1).f4).length c153_4, .int .u8 ((rd_T66 l0_1 x23_1).f5), .int .i64 ((rd_T66 l0_1 x23_1).f6), .int .i64 ((rd_T66 l0_1 x23_1).f7)] 66 (0, 0)) (kb BK154) hg (Kd.R_ne HO_5.out BK154.out (by decide))); have n3_ := Aside0.mk ((by rw [hw]; exact below_set (HB.out) GB25.out : Below w.heap.size w w36)); clear HO_5; clear BK149; clear BK154; clear HB; have HO_5 := n0_; have BK149 := n1_; have BK154 := n2_; have HB := n3_; clear n0_ n1_ n2_ n3_; clear hg hw hp_; have hcz37 := blk8 (w := w36) BK154.out; have p158 : 0 ≤ (((rd_T66 l0_1 x23_1).f7) : Int) := of_decide_eq_true ka; have q158 : ((rd_T66 l0_1 x23_1).f7) < (y157.length : Int) := (by have h_ : (((rd_T66 l0_1 x23_1).f7) : Int) < ((x5_1.length : Int) : Int) := of_decide_eq_true ka; first | (have e_ := (Kd.R_reads' HO_5.out).1; omega) | simpa only [Ny157.out, List.length_set] using h_); have ql158 : ((((rd_T66 l0_1 x23_1).f7) : Int) < ((x5_1.length : Int) : Int)) = True := eq_true (of_decide_eq_true ka); obtain ⟨ad158, e158, hx158_0⟩ := Kd.at_int (Kd.R_reads' HO_5.out).2.2 ((rd_T66 l0_1 x23_1).f7) p158 q158; obtain rfl : (⟨go25, 0, none⟩ : Addr) = ad158 := (by injection e158); (first | simp only [add_plain] at hx158_0 | simp only [add_at] at hx158_0 | simp only [Addr.add, Nat.zero_add] at hx158_0 | skip); replace p158 := eq_true p158; replace q158 := eq_true q158; have p28 : 0 ≤ (((rd_T66 l0_1 x23_1).f7) : Int) := of_decide_eq_true ka; have q28 : (((rd_T66 l0_1 x23_1).f7) : Int) < ((x5_1.length : Int) : Int) := of_decide_eq_true ka; obtain ⟨hx28_0, hf28_0⟩ := Kd.R_celln 0 HO_5.out (((rd_T66 l0_1 x23_1).f7) : Int) p28 q28; replace p28 := eq_true p28; replace q28 := eq_true q28; obtain ⟨hy38_, hz38_⟩ := Kd.R_celln 0 HO_5.out (((rd_T66 l0_1 x23_1).f7) : Int) (of_decide_eq_true ka) (of_decide_eq_true ka); have HP38 := Kd.R_putg HO_5.out (((rd_T66 l0_1 x23_1).f7) : Int) (wrap64 ((rd y157 ((rd_T66 l0_1 x23_1).f7)) + 1))) | ((with_reducible refine gate_store (t := 3) (p := 49) rfl ?_); refine store_event (t := 3) (p := 49) (v := ?vo_w39) (w1 := (w36.setCell ⟨go25, (((rd_T66 l0_1 x23_1).f7) : Int).toNat, none⟩ (.int .i64 (wrap64 ((rd y157 ((rd_T66 l0_1 x23_1).f7)) + 1))))) ?hg ?ho ?hn ?hr ?_; (case ho => rfl); (case hg => rfl); (case hn => rfl); (case hr => first | (go_simp; done) | (go_simp; rfl)); intro w39 hw; have hg : w36.grownBy w39 (some go25) := (by rw [hw]; exact HP38.2); have hp_ : Kd.R (Kd.int .i64) 3 w39 w.heap.size (fun _ => True) (.slice (some ⟨go25, 0, none⟩) x5_1.length co34) y159 := (by rw [hw, Ny159.out]; exact HP38.1); clear HP38; have n0_ := Aside0.mk (hp_); have n1_ := Aside0.mk (blk_grown (g := gb149) (o := .cells #[.int .i64 a0_0, .slice (some ad153) l0_1.length c0_1] 36 (0, 0)) (kb BK149) hg (Kd.R_ne HO_5.out BK149.out (by decide))); have n2_ := Aside0.mk (blk_grown (g := gb154) (o := .cells #[.int .u8 ((rd_T66 l0_1 x23_1).f0), .int .i64 ((rd_T66 l0_1 x23_1).f1), .int .i64 ((rd_T66 l0_1 x23_1).f2), .float .f64 ((rd_T66 l0_1 x23_1).f3), .slice A153_4 ((rd_T66 l0_1 x23_1).f4).length c153_4, .int .u8 ((rd_T66 l0_1 x23_1).f5), .int .i64 ((rd_T66 l0_1 x23_1).f6), .int .i64 ((rd_T66 l0_1 x23_1).f7)] 66 (0, 0)) (kb BK154) hg (Kd.R_ne HO_5.out BK154.out (by decide))); have n3_ := Aside0.mk ((by rw [hw]; exact below_set (HB.out) GB25.out : Below w.heap.size w w39)); clear HO_5; clear BK149; clear BK154; clear HB; have HO_5 := n0_; have BK149 := n1_; have BK154 := n2_; have HB := n3_; clear n0_ n1_ n2_ n3_; clear hg hw hp_))
               go_roundg k1
               case measure => have := HK1.out; omega
               case rel => exact ⟨(y159), (wrap64 (x23_1 + 1)), kr, H', ⟨by have := HK1.out; omega⟩, ⟨kR HO_5⟩, ⟨kb BK149⟩, ⟨kB2 HB GE149 GE154⟩⟩
              ·rw [if_neg c27] at H
               exact absurd H (by simp)
             ·rw [if_neg c26] at H
              exact absurd H (by simp)
            ·rw [if_neg c24] at H
             exact absurd H (by simp)
           ·rw [if_neg c23] at H
            exact absurd H (by simp)
         ·replace c16 := Bool.eq_false_iff.mpr c16
          subst c16
          have H1 : (some (71, x23_1)) = some (r1, r2) := by rw [if_neg (show ¬ (false = true) by decide)] at H; exact H
          clear H
          have H := H1
          clear H1
          simp only [Option.some.injEq, Prod.mk.injEq] at H
          obtain ⟨rfl, rfl⟩ := H
          have p153 : 0 ≤ (x23_1 : Int) := of_decide_eq_true ka
          have q153 : x23_1 < (l0_1.length : Int) := of_decide_eq_true ka
          obtain ⟨ad153, A153_4, c153_4, e153, hx153_0, hx153_1, hx153_2, hx153_3, hx153_4, hx153_5, hx153_6, hx153_7, hl153_4, hi153_4⟩ := at_T66 HR0_1.out x23_1 p153 q153
          cases e153
          replace hx153_0 := (HB.out.cell (World.block_lt_of_cell? w _ hx153_0)).trans hx153_0
          replace hx153_1 := (HB.out.cell (World.block_lt_of_cell? w _ hx153_1)).trans hx153_1
          replace hx153_2 := (HB.out.cell (World.block_lt_of_cell? w _ hx153_2)).trans hx153_2
          replace hx153_3 := (HB.out.cell (World.block_lt_of_cell? w _ hx153_3)).trans hx153_3
          replace hx153_4 := (HB.out.cell (World.block_lt_of_cell? w _ hx153_4)).trans hx153_4
          replace hx153_5 := (HB.out.cell (World.block_lt_of_cell? w _ hx153_5)).trans hx153_5
          replace hx153_6 := (HB.out.cell (World.block_lt_of_cell? w _ hx153_6)).trans hx153_6
          replace hx153_7 := (HB.out.cell (World.block_lt_of_cell? w _ hx153_7)).trans hx153_7
          have HR153_4 := Aside0.mk hi153_4
          have HC153_4 := Aside0.mk hl153_4
          clear hi153_4 hl153_4
          replace p153 := eq_true p153
          replace q153 := eq_true q153
          go_wp2_with (first | ((with_reducible refine gate_dst (N := 7) rfl ?_); refine box_event ?hg (N := 7) ?hd (cs := #[.int .u8 0, .int .i64 0, .int .i64 0, .float .f64 0, .slice none 0 0, .int .u8 0, .int .i64 0, .int .i64 0]) (t := 66) ?hr ?_; (case hd => rfl); (case hg => rfl); (case hr => first | (go_simp; done) | (go_simp; rfl)); intro gb154 hg w40 hbox hb; have n0_ := Aside0.mk (Kd.R_below (kR HO_5) hb); have n1_ := Aside0.mk (blk_below (g := gb149) (o := .cells #[.int .i64 a0_0, .slice (some ad153) l0_1.length c0_1] 36 (0, 0)) (kb BK149) hb); have n2_ := Aside0.mk (below_step (kB1 HB GE149) hb); have n3_ := Aside0.mk (hbox); have n4_ := Aside0.mk ((kg hg (kB1 HB GE149) : w.heap.size ≤ gb154)); have n5_ := Aside0.mk ((kg hg (kB1 HB GE149) : w.heap.size ≤ gb154)); have n6_ := Aside0.mk ((by rw [hg]; exact Nat.ne_of_lt (blk_lt (g := gb149) (o := .cells #[.int .i64 a0_0, .slice (some ad153) l0_1.length c0_1] 36 (0, 0)) (kb BK149)) : gb149 ≠ gb154)); have n7_ := Aside0.mk ((by rw [hg]; exact Nat.ne_of_gt (blk_lt (g := gb149) (o := .cells #[.int .i64 a0_0, .slice (some ad153) l0_1.length c0_1] 36 (0, 0)) (kb BK149)) : gb154 ≠ gb149)); clear HO_5; clear BK149; clear HB; have HO_5 := n0_; have BK149 := n1_; have HB := n2_; have BK154 := n3_; have GW154 := n4_; have GE154 := n5_; have NB149_154 := n6_; have NB154_149 := n7_; clear n0_ n1_ n2_ n3_ n4_ n5_ n6_ n7_; clear hb hbox hg; have hnb41 := NB154_149.out; have hnc41 := NB149_154.out; have hcz42 := blk8 (w := w40) BK154.out) | ((with_reducible refine gate_callee (f := 52) rfl ?_); refine goesL_ (some 30) rfl rfl Tryd.func52 (by kernel_rfl) rfl #[.agg #[.int .u8 ((rd_T66 l0_1 x23_1).f0), .int .i64 ((rd_T66 l0_1 x23_1).f1), .int .i64 ((rd_T66 l0_1 x23_1).f2), .float .f64 ((rd_T66 l0_1 x23_1).f3), .slice A153_4 ((rd_T66 l0_1 x23_1).f4).length c153_4, .int .u8 ((rd_T66 l0_1 x23_1).f5), .int .i64 ((rd_T66 l0_1 x23_1).f6), .int .i64 ((rd_T66 l0_1 x23_1).f7)], .int .i64 (l0_1.length : Int)] rfl (by (try simp only [List.map_toArray, List.map_cons, List.map_nil]); first | done | rfl | (simp only [List.length_drop, List.length_take]; rfl)) ?_; (with_reducible refine (thicketref07_node.calls k1 ((rd_T66 l0_1 x23_1).f0) ((rd_T66 l0_1 x23_1).f1) ((rd_T66 l0_1 x23_1).f2) ((rd_T66 l0_1 x23_1).f3) _ _ ((rd_T66 l0_1 x23_1).f4) ((rd_T66 l0_1 x23_1).f5) ((rd_T66 l0_1 x23_1).f6) ((rd_T66 l0_1 x23_1).f7) (l0_1.length : Int) false _ ?side1 ?side2 A15.out).mono ?_); (case side1 => exact Kd.C_below HR153_4.out (kB2 HB GE149 GE154)); (case side2 => exact HC153_4.out); rintro e w43 ⟨rfl, hb⟩; refine ⟨_, rfl, ?_⟩; have n0_ := Aside0.mk (Kd.R_below (by (with_reducible repeat (first | apply Kd.R_alloc | apply Kd.R_drewN | apply Kd.R_drew)); exact (Kd.R_mono (Kd.R_far (p := ⟨gb154, 7, none⟩) (Kd.R_far (p := ⟨gb154, 6, none⟩) (Kd.R_far (p := ⟨gb154, 5, none⟩) (Kd.R_far (p := ⟨gb154, 4, none⟩) (Kd.R_far (p := ⟨gb154, 3, none⟩) (Kd.R_far (p := ⟨gb154, 2, none⟩) (Kd.R_far (p := ⟨gb154, 1, none⟩) (Kd.R_far (p := ⟨gb154, 0, none⟩) (Kd.R_types HO_5.out BK154.out (by decide)) (fun _ hk => hk.2) (.int .u8 ((rd_T66 l0_1 x23_1).f0))) (fun _ hk => hk.2) (.int .i64 ((rd_T66 l0_1 x23_1).f1))) (fun _ hk => hk.2) (.int .i64 ((rd_T66 l0_1 x23_1).f2))) (fun _ hk => hk.2) (.float .f64 ((rd_T66 l0_1 x23_1).f3))) (fun _ hk => hk.2) (.slice A153_4 ((rd_T66 l0_1 x23_1).f4).length c153_4)) (fun _ hk => hk.2) (.int .u8 ((rd_T66 l0_1 x23_1).f5))) (fun _ hk => hk.2) (.int .i64 ((rd_T66 l0_1 x23_1).f6))) (fun _ hk => hk.2) (.int .i64 ((rd_T66 l0_1 x23_1).f7))) (fun _ h_ => h_.1))) hb); have n1_ := Aside0.mk (blk_below (g := gb149) (o := .cells #[.int .i64 a0_0, .slice (some ad153) l0_1.length c0_1] 36 (0, 0)) (by (with_reducible repeat (first | refine blk_drewN ?_ _ | refine blk_drew ?_ | refine blk_alloc ?_ _)); refine blk_far ?_ NB149_154.out _; (with_reducible repeat (first | refine blk_drewN ?_ _ | refine blk_drew ?_ | refine blk_alloc ?_ _)); refine blk_far ?_ NB149_154.out _; (with_reducible repeat (first | refine blk_drewN ?_ _ | refine blk_drew ?_ | refine blk_alloc ?_ _)); refine blk_far ?_ NB149_154.out _; (with_reducible repeat (first | refine blk_drewN ?_ _ | refine blk_drew ?_ | refine blk_alloc ?_ _)); refine blk_far ?_ NB149_154.out _; (with_reducible repeat (first | refine blk_drewN ?_ _ | refine blk_drew ?_ | refine blk_alloc ?_ _)); refine blk_far ?_ NB149_154.out _; (with_reducible repeat (first | refine blk_drewN ?_ _ | refine blk_drew ?_ | refine blk_alloc ?_ _)); refine blk_far ?_ NB149_154.out _; (with_reducible repeat (first | refine blk_drewN ?_ _ | refine blk_drew ?_ | refine blk_alloc ?_ _)); refine blk_far ?_ NB149_154.out _; (with_reducible repeat (first | refine blk_drewN ?_ _ | refine blk_drew ?_ | refine blk_alloc ?_ _)); refine blk_far ?_ NB149_154.out _; (with_reducible repeat (first | refine blk_drewN ?_ _ | refine blk_drew ?_ | refine blk_alloc ?_ _)); exact BK149.out) hb); have n2_ := Aside0.mk (blk_below (g := gb154) (o := .cells #[.int .u8 ((rd_T66 l0_1 x23_1).f0), .int .i64 ((rd_T66 l0_1 x23_1).f1), .int .i64 ((rd_T66 l0_1 x23_1).f2), .float .f64 ((rd_T66 l0_1 x23_1).f3), .slice A153_4 ((rd_T66 l0_1 x23_1).f4).length c153_4, .int .u8 ((rd_T66 l0_1 x23_1).f5), .int .i64 ((rd_T66 l0_1 x23_1).f6), .int .i64 ((rd_T66 l0_1 x23_1).f7)] 66 (0, 0)) (by (with_reducible repeat (first | refine blk_drewN ?_ _ | refine blk_drew ?_ | refine blk_alloc ?_ _)); refine blk_put (cs := #[.int .u8 ((rd_T66 l0_1 x23_1).f0), .int .i64 ((rd_T66 l0_1 x23_1).f1), .int .i64 ((rd_T66 l0_1 x23_1).f2), .float .f64 ((rd_T66 l0_1 x23_1).f3), .slice A153_4 ((rd_T66 l0_1 x23_1).f4).length c153_4, .int .u8 ((rd_T66 l0_1 x23_1).f5), .int .i64 ((rd_T66 l0_1 x23_1).f6), .int .i64 0]) ?_ 7 _ rfl; (with_reducible repeat (first | refine blk_drewN ?_ _ | refine blk_drew ?_ | refine blk_alloc ?_ _)); refine blk_put (cs := #[.int .u8 ((rd_T66 l0_1 x23_1).f0), .int .i64 ((rd_T66 l0_1 x23_1).f1), .int .i64 ((rd_T66 l0_1 x23_1).f2), .float .f64 ((rd_T66 l0_1 x23_1).f3), .slice A153_4 ((rd_T66 l0_1 x23_1).f4).length c153_4, .int .u8 ((rd_T66 l0_1 x23_1).f5), .int .i64 0, .int .i64 0]) ?_ 6 _ rfl; (with_reducible repeat (first | refine blk_drewN ?_ _ | refine blk_drew ?_ | refine blk_alloc ?_ _)); refine blk_put (cs := #[.int .u8 ((rd_T66 l0_1 x23_1).f0), .int .i64 ((rd_T66 l0_1 x23_1).f1), .int .i64 ((rd_T66 l0_1 x23_1).f2), .float .f64 ((rd_T66 l0_1 x23_1).f3), .slice A153_4 ((rd_T66 l0_1 x23_1).f4).length c153_4, .int .u8 0, .int .i64 0, .int .i64 0]) ?_ 5 _ rfl; (with_reducible repeat (first | refine blk_drewN ?_ _ | refine blk_drew ?_ | refine blk_alloc ?_ _)); refine blk_put (cs := #[.int .u8 ((rd_T66 l0_1 x23_1).f0), .int .i64 ((rd_T66 l0_1 x23_1).f1), .int .i64 ((rd_T66 l0_1 x23_1).f2), .float .f64 ((rd_T66 l0_1 x23_1).f3), .slice none 0 0, .int .u8 0, .int .i64 0, .int .i64 0]) ?_ 4 _ rfl; (with_reducible repeat (first | refine blk_drewN ?_ _ | refine blk_drew ?_ | refine blk_alloc ?_ _)); refine blk_put (cs := #[.int .u8 ((rd_T66 l0_1 x23_1).f0), .int .i64 ((rd_T66 l0_1 x23_1).f1), .int .i64 ((rd_T66 l0_1 x23_1).f2), .float .f64 0, .slice none 0 0, .int .u8 0, .int .i64 0, .int .i64 0]) ?_ 3 _ rfl; (with_reducible repeat (first | refine blk_drewN ?_ _ | refine blk_drew ?_ | refine blk_alloc ?_ _)); refine blk_put (cs := #[.int .u8 ((rd_T66 l0_1 x23_1).f0), .int .i64 ((rd_T66 l0_1 x23_1).f1), .int .i64 0, .float .f64 0, .slice none 0 0, .int .u8 0, .int .i64 0, .int .i64 0]) ?_ 2 _ rfl; (with_reducible repeat (first | refine blk_drewN ?_ _ | refine blk_drew ?_ | refine blk_alloc ?_ _)); refine blk_put (cs := #[.int .u8 ((rd_T66 l0_1 x23_1).f0), .int .i64 0, .int .i64 0, .float .f64 0, .slice none 0 0, .int .u8 0, .int .i64 0, .int .i64 0]) ?_ 1 _ rfl; (with_reducible repeat (first | refine blk_drewN ?_ _ | refine blk_drew ?_ | refine blk_alloc ?_ _)); refine blk_put (cs := #[.int .u8 0, .int .i64 0, .int .i64 0, .float .f64 0, .slice none 0 0, .int .u8 0, .int .i64 0, .int .i64 0]) ?_ 0 _ rfl; (with_reducible repeat (first | refine blk_drewN ?_ _ | refine blk_drew ?_ | refine blk_alloc ?_ _)); exact BK154.out) hb); have n3_ := Aside0.mk (below_step (kB2 HB GE149 GE154) hb); clear HO_5; clear BK149; clear BK154; clear HB; have HO_5 := n0_; have BK149 := n1_; have BK154 := n2_; have HB := n3_; clear n0_ n1_ n2_ n3_; (try clear hb); (try clear hb2); (try clear hk); (try clear hi)))
          go_ret2
          exact ⟨by first | rfl | (simp [errW_none, errW_some] <;> rfl) | (simp [*, errW_none, errW_some] <;> rfl), kB2 HB GE149 GE154⟩
        ·rw [if_neg c14] at H
         exact absurd H (by simp)
       ·rw [if_neg c13] at H
        exact absurd H (by simp)
      ·rw [if_neg c12] at H
       have c12b0 : decide (x23_1 < (l0_1.length : Int)) = false := decide_eq_false c12
       clear c12
       by_cases c44 : 0 ≤ (l0_1.length : Int)
       ·rw [if_pos c44] at H
        have c44b0 := eq_true c44
        have c44b1 : decide (0 ≤ (l0_1.length : Int)) = true := decide_eq_true c44
        clear c44
        by_cases c45 : ((l0_1.length : Int) : Int).toNat ≤ 281474976710656
        ·rw [if_pos c45] at H
         have c45b0 := eq_true c45
         have c45b1 : decide (((l0_1.length : Int) : Int).toNat ≤ 281474976710656) = true := decide_eq_true c45
         clear c45
         obtain ⟨y160, hy160⟩ : ∃ y_ : List Bool, y_ = (List.replicate ((l0_1.length : Int) : Int).toNat false) := ⟨_, rfl⟩
         replace H : (thicketref07_Shape.l1 k1 x5_1 y160 (([0] : List Int)) a0_0 l0_1) = some (r1, r2) := by first | (rw [hy160]; with_reducible exact H) | (have H2_ := (Option.bind_some _ _).symm.trans H; rw [hy160]; with_reducible exact H2_) | (have H2_ := (Option.bind_some _ _).symm.trans H; with_reducible exact H2_) | with_reducible exact H | (rw [hy160]; exact H) | exact H
         have Ny160 := Aside0.mk hy160
         clear hy160
         obtain ⟨y163, hy163⟩ : ∃ y_ : List Int, y_ = (([0] : List Int)) := ⟨_, rfl⟩
         replace H : (thicketref07_Shape.l1 k1 x5_1 y160 y163 a0_0 l0_1) = some (r1, r2) := by first | (rw [hy163]; with_reducible exact H) | (have H2_ := (Option.bind_some _ _).symm.trans H; rw [hy163]; with_reducible exact H2_) | (have H2_ := (Option.bind_some _ _).symm.trans H; with_reducible exact H2_) | with_reducible exact H | (rw [hy163]; exact H) | exact H
         have Ny163 := Aside0.mk hy163
         clear hy163
         have H' := Aside0.mk H
         clear H
         go_wp2_with (first | ((with_reducible refine gate_dst (N := 52) rfl ?_); refine Kd.R_make Kd.bool _ 4 rfl (N := 52) rfl 87 _ _ rfl (l0_1.length : Int) rfl rfl Tryd.underlying87 (.bool false) 1 info4 rfl (by decide) (by omega) false (ok := fun _ => True) (okp := fun _ => True) rfl (fun _ hk => hk) trivial (of_decide_eq_true ka) (Nat.le_trans (Nat.mul_le_mul_right _ (of_decide_eq_true ka : (l0_1.length : Int).toNat ≤ 281474976710656)) (by omega)) (Below.refl _ _) (Nat.le_refl _) ?_; intro v161 w46 ho47 hb hg_ hnew_; clear hg_ hnew_; (first | rw [← Ny160.out] at ho47 | (simp only [Int.reduceToNat] at ho47; rw [← Ny160.out] at ho47)); have n0_ := Aside0.mk (Kd.R_below (kR HO_5) hb); have n1_ := Aside0.mk (Kd.R_lower ho47 (below_size (kB1 HB GE149))); have n2_ := Aside0.mk (blk_below (g := gb149) (o := .cells #[.int .i64 a0_0, .slice A0_1 l0_1.length c0_1] 36 (0, 0)) (kb BK149) hb); have n3_ := Aside0.mk (below_step (kB1 HB GE149) hb); clear HO_5; clear BK149; clear HB; have HO_5 := n0_; have HO162 := n1_; have BK149 := n2_; have HB := n3_; clear n0_ n1_ n2_ n3_; clear hb ho47) | ((with_reducible refine gate_dst (N := 53) rfl ?_); refine Kd.R_lit (Kd.int .i64) _ 3 ?hg (N := 53) ?hd (xs := ([0] : List Int)) (inner := [.int .i64 0]) (ok := fun _ => True) (okp := fun _ => True) ?hr ?hp (fun _ hk => hk) trivial (Below.refl _ _) (Nat.le_refl _) (by simp) ?_; (case hd => rfl); (case hg => rfl); (case hr => first | (go_simp; done) | (go_simp; rfl)); (case hp => exact (Reps.one (show Kd.M (Kd.int .i64) _ _ _ 0 [.int .i64 0] from rfl) (Reps.none _ _))); intro v164 w48 ho49 hb hg_ hnew_; clear hg_ hnew_; (first | rw [← Ny163.out] at ho49 | (simp only [Int.reduceToNat] at ho49; rw [← Ny163.out] at ho49)); have n0_ := Aside0.mk (Kd.R_elder' (kR HO_5) (Kd.R_base ho49) hb); have n1_ := Aside0.mk (Kd.R_below (kR HO162) hb); have n2_ := Aside0.mk (Kd.R_lower (Kd.R_new' ho49 (Kd.R_lt (kR HO_5))) (below_size (kB1 HB GE149))); have n3_ := Aside0.mk (blk_below (g := gb149) (o := .cells #[.int .i64 a0_0, .slice A0_1 l0_1.length c0_1] 36 (0, 0)) (kb BK149) hb); have n4_ := Aside0.mk (below_step (kB1 HB GE149) hb); clear HO_5; clear HO162; clear BK149; clear HB; have HO_5 := n0_; have HO162 := n1_; have HO165 := n2_; have BK149 := n3_; have HB := n4_; clear n0_ n1_ n2_ n3_ n4_; clear hb ho49))
         go_loopg [9] k1 (fun kq v9 w' => ∃ (x8_2 : List Bool) (x9_2 : List Int), Aside0 (thicketref07_Shape.l1 kq x5_1 x8_2 x9_2 a0_0 l0_1 = some (r1, r2)) ∧ Aside0 (kq ≤ k1) ∧ Aside0 (Kd.R (Kd.int .i64) 3 w' w.heap.size (fun k_ => some k_ ≠ (v9 : Value).ownBlock) v151 x5_1) ∧ Aside0 (Kd.R Kd.bool 4 w' w.heap.size (fun _ => True) v161 x8_2) ∧ Aside0 (Kd.R (Kd.int .i64) 3 w' w.heap.size (fun k_ => some k_ ≠ (v151 : Value).ownBlock) v9 x9_2) ∧ Aside0 (w'.heap[gb149]? = some (.cells #[.int .i64 a0_0, (.slice A0_1 l0_1.length c0_1)] 36 (0, 0))) ∧ Aside0 (Below w.heap.size w w'))
         case atStart => exact ⟨(y160), (y163), H', ⟨Nat.le_refl _⟩, ⟨by (with_reducible repeat (first | apply Kd.R_alloc | apply Kd.R_drewN | apply Kd.R_drew)); exact Kd.R_mono HO_5.out (fun _ hk => hk.2)⟩, ⟨kR HO162⟩, ⟨by (with_reducible repeat (first | apply Kd.R_alloc | apply Kd.R_drewN | apply Kd.R_drew)); exact Kd.R_mono HO165.out (fun _ hk => hk.2)⟩, ⟨kb BK149⟩, ⟨kB1 HB GE149⟩⟩
         case round =>
          clear H'
          try clear c1
          try clear p1
          try clear q1
          try clear hx1
          try clear c2
          try clear c2b0
          try clear c2b1
          try clear c2b2
          try clear p2
          try clear q2
          try clear hx2
          try clear hf2
          try clear c3
          try clear c4
          try clear c5
          try clear c5b0
          try clear c5b1
          try clear c6
          try clear c6b0
          try clear c6b1
          try clear p6
          try clear c12
          try clear c12b0
          try clear c13
          try clear c13b0
          try clear c14
          try clear c14b0
          try clear c15
          try clear p15
          try clear q15
          try clear hx15
          try clear c16
          try clear c17
          try clear c17b0
          try clear c17b1
          try clear c19
          try clear c23
          try clear c23b0
          try clear c24
          try clear c24b0
          try clear p25
          try clear q25
          try clear hx25
          try clear hf25
          try clear c26
          try clear c26b0
          try clear c27
          try clear c27b0
          try clear p28
          try clear q28
          try clear hx28
          try clear hf28
          try clear c30
          try clear c32
          try clear c41
          try clear c44
          try clear c44b0
          try clear c44b1
          try clear c45
          try clear c45b0
          try clear c45b1
          try clear hcz11
          try clear hcz20
          try clear hcz22
          try clear hcz31
          try clear hcz33
          try clear hcz37
          try clear hcz42
          try clear hcz4
          try clear hcz8
          try clear hx153_0
          try clear hx153_1
          try clear hx153_2
          try clear hx153_3
          try clear hx153_4
          try clear hx153_5
          try clear hx153_6
          try clear hx153_7
          try clear hx156_0
          try clear hx158_0
          try clear hx25_0
          try clear hx28_0
          try clear p153
          try clear p156
          try clear p158
          try clear q153
          try clear q156
          try clear q158
          obtain ⟨x8_2, x9_2, HA, HK2, HO_5, HO_8, HO_9, BK149, HB⟩ := hrel
          cases gk with
          | zero => exact absurd HA.out (by simp [thicketref07_Shape.l1])
          | succ k2 =>
           have H := HA.out
           clear HA
           simp only [thicketref07_Shape.l1] at H
           by_cases c50 : (x9_2.length : Int) > 0
           ·rw [if_pos c50] at H
            have c50b0 : decide (0 < (x9_2.length : Int)) = true := decide_eq_true c50
            have c50b1 : decide (0 < x9_2.length) = true := decide_eq_true (by omega)
            clear c50
            obtain ⟨ji51, hji51⟩ : ∃ j_ : Int, (wrap64 ((x9_2.length : Int) - 1)) = j_ := ⟨_, rfl⟩
            replace H : (if 0 ≤ (ji51) then (if (ji51) < (x9_2.length : Int) then (if (ji51) ≤ (x9_2.length : Int) then ((some (x9_2.take ((ji51) : Int).toNat : List Int)).bind fun y167 => (if 0 ≤ (rd x9_2 (ji51)) then (if (rd x9_2 (ji51)) < (x8_2.length : Int) then (if rdOf false x8_2 (rd x9_2 (ji51)) = true then (thicketref07_Shape.l1 k2 x5_1 x8_2 y167 a0_0 l0_1) else ((some (x8_2.set ((rd x9_2 (ji51)) : Int).toNat true : List Bool)).bind fun y171 => (if (rd x9_2 (ji51)) < (l0_1.length : Int) then (if ((rd_T66 l0_1 (rd x9_2 (ji51))).f0) = 1 then (thicketref07_Shape.l1 k2 x5_1 y171 y167 a0_0 l0_1) else ((some (([(rd_T66 l0_1 (rd x9_2 (ji51))).f6, (rd_T66 l0_1 (rd x9_2 (ji51))).f7] : List Int) : List Int)).bind fun y174 => (if y167.length + y174.length < 17592186044416 then (thicketref07_Shape.l1 k2 x5_1 y171 (y167 ++ y174) a0_0 l0_1) else (none)))) else (none)))) else (none)) else (none))) else (none)) else (none)) else (none)) = some (r1, r2) := by first | (rw [hji51] at H; exact H) | (simp only [hji51] at H ⊢; exact H)
            have hji51w : (IntKind.i64.wrap ((x9_2.length : Int) - 1)) = ji51 := (i64_w _).trans hji51
            by_cases c52 : 0 ≤ (ji51)
            ·rw [if_pos c52] at H
             have c52b0 : decide (0 ≤ (ji51)) = true := decide_eq_true c52
             clear c52
             by_cases c53 : (ji51) < (x9_2.length : Int)
             ·rw [if_pos c53] at H
              have c53b0 : decide ((ji51) < (x9_2.length : Int)) = true := decide_eq_true c53
              clear c53
              by_cases c54 : (ji51) ≤ (x9_2.length : Int)
              ·rw [if_pos c54] at H
               have c54b0 := eq_true c54
               have c54b1 : decide ((ji51) ≤ (x9_2.length : Int)) = true := decide_eq_true c54
               clear c54
               obtain ⟨y167, hy167⟩ : ∃ y_ : List Int, y_ = (x9_2.take ((ji51) : Int).toNat) := ⟨_, rfl⟩
               replace H : (if 0 ≤ (rd x9_2 (ji51)) then (if (rd x9_2 (ji51)) < (x8_2.length : Int) then (if rdOf false x8_2 (rd x9_2 (ji51)) = true then (thicketref07_Shape.l1 k2 x5_1 x8_2 y167 a0_0 l0_1) else ((some (x8_2.set ((rd x9_2 (ji51)) : Int).toNat true : List Bool)).bind fun y171 => (if (rd x9_2 (ji51)) < (l0_1.length : Int) then (if ((rd_T66 l0_1 (rd x9_2 (ji51))).f0) = 1 then (thicketref07_Shape.l1 k2 x5_1 y171 y167 a0_0 l0_1) else ((some (([(rd_T66 l0_1 (rd x9_2 (ji51))).f6, (rd_T66 l0_1 (rd x9_2 (ji51))).f7] : List Int) : List Int)).bind fun y174 => (if y167.length + y174.length < 17592186044416 then (thicketref07_Shape.l1 k2 x5_1 y171 (y167 ++ y174) a0_0 l0_1) else (none)))) else (none)))) else (none)) else (none)) = some (r1, r2) := by first | (rw [hy167]; with_reducible exact H) | (have H2_ := (Option.bind_some _ _).symm.trans H; rw [hy167]; with_reducible exact H2_) | (have H2_ := (Option.bind_some _ _).symm.trans H; with_reducible exact H2_) | with_reducible exact H | (rw [hy167]; exact H) | exact H
               have Ny167 := Aside0.mk hy167
               clear hy167
               by_cases c55 : 0 ≤ (rd x9_2 (ji51))
               ·rw [if_pos c55] at H
                have c55b0 : decide (0 ≤ (rd x9_2 (ji51))) = true := decide_eq_true c55
                clear c55
                by_cases c56 : (rd x9_2 (ji51)) < (x8_2.length : Int)
                ·rw [if_pos c56] at H
                 have c56b0 : decide ((rd x9_2 (ji51)) < (x8_2.length : Int)) = true := decide_eq_true c56
                 clear c56
                 obtain ⟨bq57, hbq57⟩ : ∃ b_ : Bool, b_ = (rdOf false x8_2 (rd x9_2 (ji51))) := ⟨_, rfl⟩
                 replace H : (if bq57 = true then (thicketref07_Shape.l1 k2 x5_1 x8_2 y167 a0_0 l0_1) else ((some (x8_2.set ((rd x9_2 (ji51)) : Int).toNat true : List Bool)).bind fun y171 => (if (rd x9_2 (ji51)) < (l0_1.length : Int) then (if ((rd_T66 l0_1 (rd x9_2 (ji51))).f0) = 1 then (thicketref07_Shape.l1 k2 x5_1 y171 y167 a0_0 l0_1) else ((some (([(rd_T66 l0_1 (rd x9_2 (ji51))).f6, (rd_T66 l0_1 (rd x9_2 (ji51))).f7] : List Int) : List Int)).bind fun y174 => (if y167.length + y174.length < 17592186044416 then (thicketref07_Shape.l1 k2 x5_1 y171 (y167 ++ y174) a0_0 l0_1) else (none)))) else (none)))) = some (r1, r2) := by rw [← hbq57] at H; exact H
                 have Nbq57 := Aside0.mk hbq57
                 clear hbq57
                 by_cases c58 : bq57 = true
                 ·subst c58
                  have H1 : (thicketref07_Shape.l1 k2 x5_1 x8_2 y167 a0_0 l0_1) = some (r1, r2) := by rw [if_pos rfl] at H; exact H
                  clear H
                  have H := H1
                  clear H1
                  have H' := Aside0.mk H
                  clear H
                  obtain ⟨Ao59, co59, eo59⟩ := Kd.R_slice HO_9.out
                  subst eo59
                  have p166 : 0 ≤ ((ji51) : Int) := of_decide_eq_true ka
                  have q166 : (ji51) < (x9_2.length : Int) := of_decide_eq_true ka
                  obtain ⟨ad166, e166, hx166_0⟩ := Kd.at_int (Kd.R_reads' HO_9.out).2.2 (ji51) p166 q166
                  cases e166
                  replace p166 := eq_true p166
                  replace q166 := eq_true q166
                  have q60 : ((ji51) : Int) ≤ ((x9_2.length : Int) : Int) := of_decide_eq_true ka
                  obtain ⟨i060, hi060, _, hsz60, _⟩ := info_parts info3
                  have hcut60 := cut_to (P := Tryd.prog) 63 3 .i64 Tryd.underlying63 hi060 (some ad166) x9_2.length co59 (ji51) (of_decide_eq_true ka) q60 (Kd.R_reads' HO_9.out).2.1
                  have hr60 := Kd.R_take (m := ((ji51) : Int).toNat) HO_9.out (by omega)
                  have hy60 : y167.length = ((ji51) : Int).toNat := (by rw [Ny167.out, List.length_take]; omega)
                  rw [← Ny167.out] at hr60
                  rw [← hy60] at hr60 hcut60
                  clear hy60 hi060 hsz60 HO_9
                  have HO169 := Aside0.mk hr60
                  clear hr60
                  replace q60 := eq_true q60
                  obtain ⟨Ao61, co61, eo61⟩ := Kd.R_slice HO_8.out
                  subst eo61
                  have p170 : 0 ≤ ((rd x9_2 (ji51)) : Int) := of_decide_eq_true ka
                  have q170 : (rd x9_2 (ji51)) < (x8_2.length : Int) := of_decide_eq_true ka
                  obtain ⟨ad170, e170, hx170_0⟩ := Kd.at_bool (Kd.R_reads' HO_8.out).2.2 (rd x9_2 (ji51)) p170 q170
                  (try rw [← Nbq57.out] at hx170_0)
                  cases e170
                  replace p170 := eq_true p170
                  replace q170 := eq_true q170
                  go_wp2
                  go_roundg k2
                  case measure => have := HK1.out; have := HK2.out; omega
                  case rel => exact ⟨(x8_2), (y167), H', ⟨by have := HK1.out; have := HK2.out; omega⟩, ⟨kR HO_5⟩, ⟨kR HO_8⟩, ⟨kR HO169⟩, ⟨kb BK149⟩, ⟨kB1 HB GE149⟩⟩
                 ·replace c58 := Bool.eq_false_iff.mpr c58
                  subst c58
                  have H1 : ((some (x8_2.set ((rd x9_2 (ji51)) : Int).toNat true : List Bool)).bind fun y171 => (if (rd x9_2 (ji51)) < (l0_1.length : Int) then (if ((rd_T66 l0_1 (rd x9_2 (ji51))).f0) = 1 then (thicketref07_Shape.l1 k2 x5_1 y171 y167 a0_0 l0_1) else ((some (([(rd_T66 l0_1 (rd x9_2 (ji51))).f6, (rd_T66 l0_1 (rd x9_2 (ji51))).f7] : List Int) : List Int)).bind fun y174 => (if y167.length + y174.length < 17592186044416 then (thicketref07_Shape.l1 k2 x5_1 y171 (y167 ++ y174) a0_0 l0_1) else (none)))) else (none))) = some (r1, r2) := by rw [if_neg (show ¬ (false = true) by decide)] at H; exact H
                  clear H
                  have H := H1
                  clear H1
                  obtain ⟨y171, hy171⟩ : ∃ y_ : List Bool, y_ = (x8_2.set ((rd x9_2 (ji51)) : Int).toNat true) := ⟨_, rfl⟩
                  replace H : (if (rd x9_2 (ji51)) < (l0_1.length : Int) then (if ((rd_T66 l0_1 (rd x9_2 (ji51))).f0) = 1 then (thicketref07_Shape.l1 k2 x5_1 y171 y167 a0_0 l0_1) else ((some (([(rd_T66 l0_1 (rd x9_2 (ji51))).f6, (rd_T66 l0_1 (rd x9_2 (ji51))).f7] : List Int) : List Int)).bind fun y174 => (if y167.length + y174.length < 17592186044416 then (thicketref07_Shape.l1 k2 x5_1 y171 (y167 ++ y174) a0_0 l0_1) else (none)))) else (none)) = some (r1, r2) := by first | (rw [hy171]; with_reducible exact H) | (have H2_ := (Option.bind_some _ _).symm.trans H; rw [hy171]; with_reducible exact H2_) | (have H2_ := (Option.bind_some _ _).symm.trans H; with_reducible exact H2_) | with_reducible exact H | (rw [hy171]; exact H) | exact H
                  have Ny171 := Aside0.mk hy171
                  clear hy171
                  by_cases c63 : (rd x9_2 (ji51)) < (l0_1.length : Int)
                  ·rw [if_pos c63] at H
                   have c63b0 : decide ((rd x9_2 (ji51)) < (l0_1.length : Int)) = true := decide_eq_true c63
                   clear c63
                   by_cases c64 : ((rd_T66 l0_1 (rd x9_2 (ji51))).f0) = 1
                   ·rw [if_pos c64] at H
                    have c64b0 : (((rd_T66 l0_1 (rd x9_2 (ji51))).f0) == 1) = true := beq_iff_eq.mpr c64
                    have c64b1 : (((rd_T66 l0_1 (rd x9_2 (ji51))).f0) != 1) = false := bne_eq_false_iff_eq.mpr c64
                    clear c64
                    have H' := Aside0.mk H
                    clear H
                    obtain ⟨Ao65, co65, eo65⟩ := Kd.R_slice HO_9.out
                    subst eo65
                    have p166 : 0 ≤ ((ji51) : Int) := of_decide_eq_true ka
                    have q166 : (ji51) < (x9_2.length : Int) := of_decide_eq_true ka
                    obtain ⟨ad166, e166, hx166_0⟩ := Kd.at_int (Kd.R_reads' HO_9.out).2.2 (ji51) p166 q166
                    cases e166
                    replace p166 := eq_true p166
                    replace q166 := eq_true q166
                    have q66 : ((ji51) : Int) ≤ ((x9_2.length : Int) : Int) := of_decide_eq_true ka
                    obtain ⟨i066, hi066, _, hsz66, _⟩ := info_parts info3
                    have hcut66 := cut_to (P := Tryd.prog) 63 3 .i64 Tryd.underlying63 hi066 (some ad166) x9_2.length co65 (ji51) (of_decide_eq_true ka) q66 (Kd.R_reads' HO_9.out).2.1
                    have hr66 := Kd.R_take (m := ((ji51) : Int).toNat) HO_9.out (by omega)
                    have hy66 : y167.length = ((ji51) : Int).toNat := (by rw [Ny167.out, List.length_take]; omega)
                    rw [← Ny167.out] at hr66
                    rw [← hy66] at hr66 hcut66
                    clear hy66 hi066 hsz66 HO_9
                    have HO169 := Aside0.mk hr66
                    clear hr66
                    replace q66 := eq_true q66
                    obtain ⟨Ao67, co67, eo67⟩ := Kd.R_slice HO_8.out
                    subst eo67
                    have p170 : 0 ≤ ((rd x9_2 (ji51)) : Int) := of_decide_eq_true ka
                    have q170 : (rd x9_2 (ji51)) < (x8_2.length : Int) := of_decide_eq_true ka
                    obtain ⟨ad170, e170, hx170_0⟩ := Kd.at_bool (Kd.R_reads' HO_8.out).2.2 (rd x9_2 (ji51)) p170 q170
                    (try rw [← Nbq57.out] at hx170_0)
                    cases e170
                    replace p170 := eq_true p170
                    replace q170 := eq_true q170
                    have p62 : 0 ≤ ((rd x9_2 (ji51)) : Int) := of_decide_eq_true ka
                    have q62 : ((rd x9_2 (ji51)) : Int) < ((x8_2.length : Int) : Int) := of_decide_eq_true ka
                    obtain ⟨go62, co62, eo62, gb62, gl62, cl62, HG62⟩ := Kd.R_form HO_8.out (by omega)
                    (first | cases eo62 | (injection eo62 with ea_ en_ ec_; (first | subst ea_ | (injection ea_ with ea_; subst ea_)); subst ec_; clear en_))
                    have GB62 := Aside0.mk gb62
                    have GG62 := Aside0.mk HG62
                    clear gb62 gl62 HG62
                    (first | simp only [add_plain] at hx170_0 | skip)
                    obtain ⟨hx62_0, hf62_0⟩ := Kd.R_celln false HO_8.out ((rd x9_2 (ji51)) : Int) p62 q62
                    replace p62 := eq_true p62
                    replace q62 := eq_true q62
                    have HP68 := Kd.R_putg HO_8.out ((rd x9_2 (ji51)) : Int) true
                    go_wp2_with (first | ((with_reducible refine gate_store (t := 4) (p := 74) rfl ?_); refine store_event (t := 4) (p := 74) (v := ?vo_w69) (w1 := (wr.setCell ⟨go62, ((rd x9_2 (ji51)) : Int).toNat, none⟩ (.bool true))) ?hg ?ho ?hn ?hr ?_; (case ho => rfl); (case hg => rfl); (case hn => rfl); (case hr => first | (go_simp; done) | (go_simp; rfl)); intro w69 hw; have hg : wr.grownBy w69 (some go62) := (by rw [hw]; exact HP68.2); have hp_ : Kd.R Kd.bool 4 w69 w.heap.size (fun _ => True) (.slice (some ⟨go62, 0, none⟩) x8_2.length co67) y171 := (by rw [hw, Ny171.out]; exact HP68.1); clear HP68; have n0_ := Aside0.mk (Kd.R_over' (v := (.slice (some ⟨go62, 0, none⟩) x8_2.length co67)) (kR HO_5) (Kd.R_typed HO_8.out) (by decide) hg); have n1_ := Aside0.mk (hp_); have n2_ := Aside0.mk (Kd.R_over' (v := (.slice (some ⟨go62, 0, none⟩) x8_2.length co67)) (kR HO169) (Kd.R_typed HO_8.out) (by decide) hg); have n3_ := Aside0.mk (blk_grown (g := gb149) (o := .cells #[.int .i64 a0_0, .slice A0_1 l0_1.length c0_1] 36 (0, 0)) (kb BK149) hg (Kd.R_ne HO_8.out BK149.out (by decide))); have n4_ := Aside0.mk ((by rw [hw]; exact below_set (HB.out) GB62.out : Below w.heap.size w w69)); clear HO_5; clear HO_8; clear HO169; clear BK149; clear HB; have HO_5 := n0_; have HO_8 := n1_; have HO169 := n2_; have BK149 := n3_; have HB := n4_; clear n0_ n1_ n2_ n3_ n4_; clear hg hw hp_; have hcz70 := blk2 (w := w69) BK149.out; have p172 : 0 ≤ ((rd x9_2 (ji51)) : Int) := of_decide_eq_true ka; have q172 : (rd x9_2 (ji51)) < (l0_1.length : Int) := of_decide_eq_true ka; obtain ⟨ad172, A172_4, c172_4, e172, hx172_0, hx172_1, hx172_2, hx172_3, hx172_4, hx172_5, hx172_6, hx172_7, hl172_4, hi172_4⟩ := at_T66 HR0_1.out (rd x9_2 (ji51)) p172 q172; cases e172; replace hx172_0 := (HB.out.cell (World.block_lt_of_cell? w _ hx172_0)).trans hx172_0; replace hx172_1 := (HB.out.cell (World.block_lt_of_cell? w _ hx172_1)).trans hx172_1; replace hx172_2 := (HB.out.cell (World.block_lt_of_cell? w _ hx172_2)).trans hx172_2; replace hx172_3 := (HB.out.cell (World.block_lt_of_cell? w _ hx172_3)).trans hx172_3; replace hx172_4 := (HB.out.cell (World.block_lt_of_cell? w _ hx172_4)).trans hx172_4; replace hx172_5 := (HB.out.cell (World.block_lt_of_cell? w _ hx172_5)).trans hx172_5; replace hx172_6 := (HB.out.cell (World.block_lt_of_cell? w _ hx172_6)).trans hx172_6; replace hx172_7 := (HB.out.cell (World.block_lt_of_cell? w _ hx172_7)).trans hx172_7; have HR172_4 := Aside0.mk hi172_4; have HC172_4 := Aside0.mk hl172_4; clear hi172_4 hl172_4; replace p172 := eq_true p172; replace q172 := eq_true q172) | ((with_reducible refine gate_dst (N := 11) rfl ?_); refine box_event ?hg (N := 11) ?hd (cs := #[.int .u8 0, .int .i64 0, .int .i64 0, .float .f64 0, .slice none 0 0, .int .u8 0, .int .i64 0, .int .i64 0]) (t := 66) ?hr ?_; (case hd => rfl); (case hg => rfl); (case hr => first | (go_simp; done) | (go_simp; rfl)); intro gb173 hg w71 hbox hb; have n0_ := Aside0.mk (Kd.R_below (kR HO_5) hb); have n1_ := Aside0.mk (Kd.R_below (kR HO_8) hb); have n2_ := Aside0.mk (Kd.R_below (kR HO169) hb); have n3_ := Aside0.mk (blk_below (g := gb149) (o := .cells #[.int .i64 a0_0, .slice (some ad172) l0_1.length c0_1] 36 (0, 0)) (kb BK149) hb); have n4_ := Aside0.mk (below_step (kB1 HB GE149) hb); have n5_ := Aside0.mk (hbox); have n6_ := Aside0.mk ((kg hg (kB1 HB GE149) : w.heap.size ≤ gb173)); have n7_ := Aside0.mk ((kg hg (kB1 HB GE149) : w.heap.size ≤ gb173)); have n8_ := Aside0.mk ((by rw [hg]; exact Nat.ne_of_lt (blk_lt (g := gb149) (o := .cells #[.int .i64 a0_0, .slice (some ad172) l0_1.length c0_1] 36 (0, 0)) (kb BK149)) : gb149 ≠ gb173)); have n9_ := Aside0.mk ((by rw [hg]; exact Nat.ne_of_gt (blk_lt (g := gb149) (o := .cells #[.int .i64 a0_0, .slice (some ad172) l0_1.length c0_1] 36 (0, 0)) (kb BK149)) : gb173 ≠ gb149)); clear HO_5; clear HO_8; clear HO169; clear BK149; clear HB; have HO_5 := n0_; have HO_8 := n1_; have HO169 := n2_; have BK149 := n3_; have HB := n4_; have BK173 := n5_; have GW173 := n6_; have GE173 := n7_; have NB149_173 := n8_; have NB173_149 := n9_; clear n0_ n1_ n2_ n3_ n4_ n5_ n6_ n7_ n8_ n9_; clear hb hbox hg; have hnb72 := NB173_149.out; have hnc72 := NB149_173.out; have hcz73 := blk8 (w := w71) BK173.out))
                    go_roundg k2
                    case measure => have := HK1.out; have := HK2.out; omega
                    case rel => exact ⟨(y171), (y167), H', ⟨by have := HK1.out; have := HK2.out; omega⟩, ⟨by (with_reducible repeat (first | apply Kd.R_alloc | apply Kd.R_drewN | apply Kd.R_drew)); exact Kd.R_mono (Kd.R_far (p := ⟨gb173, 7, none⟩) (Kd.R_far (p := ⟨gb173, 6, none⟩) (Kd.R_far (p := ⟨gb173, 5, none⟩) (Kd.R_far (p := ⟨gb173, 4, none⟩) (Kd.R_far (p := ⟨gb173, 3, none⟩) (Kd.R_far (p := ⟨gb173, 2, none⟩) (Kd.R_far (p := ⟨gb173, 1, none⟩) (Kd.R_far (p := ⟨gb173, 0, none⟩) (Kd.R_types HO_5.out BK173.out (by decide)) (fun _ hk => hk.2) (.int .u8 ((rd_T66 l0_1 (rd x9_2 (ji51))).f0))) (fun _ hk => hk.2) (.int .i64 ((rd_T66 l0_1 (rd x9_2 (ji51))).f1))) (fun _ hk => hk.2) (.int .i64 ((rd_T66 l0_1 (rd x9_2 (ji51))).f2))) (fun _ hk => hk.2) (.float .f64 ((rd_T66 l0_1 (rd x9_2 (ji51))).f3))) (fun _ hk => hk.2) (.slice A172_4 ((rd_T66 l0_1 (rd x9_2 (ji51))).f4).length c172_4)) (fun _ hk => hk.2) (.int .u8 ((rd_T66 l0_1 (rd x9_2 (ji51))).f5))) (fun _ hk => hk.2) (.int .i64 ((rd_T66 l0_1 (rd x9_2 (ji51))).f6))) (fun _ hk => hk.2) (.int .i64 ((rd_T66 l0_1 (rd x9_2 (ji51))).f7))) (fun _ hk => hk.1)⟩, ⟨by (with_reducible repeat (first | apply Kd.R_alloc | apply Kd.R_drewN | apply Kd.R_drew)); exact Kd.R_mono (Kd.R_far (p := ⟨gb173, 7, none⟩) (Kd.R_far (p := ⟨gb173, 6, none⟩) (Kd.R_far (p := ⟨gb173, 5, none⟩) (Kd.R_far (p := ⟨gb173, 4, none⟩) (Kd.R_far (p := ⟨gb173, 3, none⟩) (Kd.R_far (p := ⟨gb173, 2, none⟩) (Kd.R_far (p := ⟨gb173, 1, none⟩) (Kd.R_far (p := ⟨gb173, 0, none⟩) (Kd.R_types HO_8.out BK173.out (by decide)) (fun _ hk => hk.2) (.int .u8 ((rd_T66 l0_1 (rd x9_2 (ji51))).f0))) (fun _ hk => hk.2) (.int .i64 ((rd_T66 l0_1 (rd x9_2 (ji51))).f1))) (fun _ hk => hk.2) (.int .i64 ((rd_T66 l0_1 (rd x9_2 (ji51))).f2))) (fun _ hk => hk.2) (.float .f64 ((rd_T66 l0_1 (rd x9_2 (ji51))).f3))) (fun _ hk => hk.2) (.slice A172_4 ((rd_T66 l0_1 (rd x9_2 (ji51))).f4).length c172_4)) (fun _ hk => hk.2) (.int .u8 ((rd_T66 l0_1 (rd x9_2 (ji51))).f5))) (fun _ hk => hk.2) (.int .i64 ((rd_T66 l0_1 (rd x9_2 (ji51))).f6))) (fun _ hk => hk.2) (.int .i64 ((rd_T66 l0_1 (rd x9_2 (ji51))).f7))) (fun _ hk => trivial)⟩, ⟨by (with_reducible repeat (first | apply Kd.R_alloc | apply Kd.R_drewN | apply Kd.R_drew)); exact Kd.R_mono (Kd.R_far (p := ⟨gb173, 7, none⟩) (Kd.R_far (p := ⟨gb173, 6, none⟩) (Kd.R_far (p := ⟨gb173, 5, none⟩) (Kd.R_far (p := ⟨gb173, 4, none⟩) (Kd.R_far (p := ⟨gb173, 3, none⟩) (Kd.R_far (p := ⟨gb173, 2, none⟩) (Kd.R_far (p := ⟨gb173, 1, none⟩) (Kd.R_far (p := ⟨gb173, 0, none⟩) (Kd.R_types HO169.out BK173.out (by decide)) (fun _ hk => hk.2) (.int .u8 ((rd_T66 l0_1 (rd x9_2 (ji51))).f0))) (fun _ hk => hk.2) (.int .i64 ((rd_T66 l0_1 (rd x9_2 (ji51))).f1))) (fun _ hk => hk.2) (.int .i64 ((rd_T66 l0_1 (rd x9_2 (ji51))).f2))) (fun _ hk => hk.2) (.float .f64 ((rd_T66 l0_1 (rd x9_2 (ji51))).f3))) (fun _ hk => hk.2) (.slice A172_4 ((rd_T66 l0_1 (rd x9_2 (ji51))).f4).length c172_4)) (fun _ hk => hk.2) (.int .u8 ((rd_T66 l0_1 (rd x9_2 (ji51))).f5))) (fun _ hk => hk.2) (.int .i64 ((rd_T66 l0_1 (rd x9_2 (ji51))).f6))) (fun _ hk => hk.2) (.int .i64 ((rd_T66 l0_1 (rd x9_2 (ji51))).f7))) (fun _ hk => hk.1)⟩, ⟨by (with_reducible repeat (first | refine blk_drewN ?_ _ | refine blk_drew ?_ | refine blk_alloc ?_ _)); refine blk_far ?_ NB149_173.out _; (with_reducible repeat (first | refine blk_drewN ?_ _ | refine blk_drew ?_ | refine blk_alloc ?_ _)); refine blk_far ?_ NB149_173.out _; (with_reducible repeat (first | refine blk_drewN ?_ _ | refine blk_drew ?_ | refine blk_alloc ?_ _)); refine blk_far ?_ NB149_173.out _; (with_reducible repeat (first | refine blk_drewN ?_ _ | refine blk_drew ?_ | refine blk_alloc ?_ _)); refine blk_far ?_ NB149_173.out _; (with_reducible repeat (first | refine blk_drewN ?_ _ | refine blk_drew ?_ | refine blk_alloc ?_ _)); refine blk_far ?_ NB149_173.out _; (with_reducible repeat (first | refine blk_drewN ?_ _ | refine blk_drew ?_ | refine blk_alloc ?_ _)); refine blk_far ?_ NB149_173.out _; (with_reducible repeat (first | refine blk_drewN ?_ _ | refine blk_drew ?_ | refine blk_alloc ?_ _)); refine blk_far ?_ NB149_173.out _; (with_reducible repeat (first | refine blk_drewN ?_ _ | refine blk_drew ?_ | refine blk_alloc ?_ _)); refine blk_far ?_ NB149_173.out _; (with_reducible repeat (first | refine blk_drewN ?_ _ | refine blk_drew ?_ | refine blk_alloc ?_ _)); exact BK149.out⟩, ⟨kB2 HB GE149 GE173⟩⟩
                   ·rw [if_neg c64] at H
                    have c64b0 : (((rd_T66 l0_1 (rd x9_2 (ji51))).f0) == 1) = false := beq_eq_false_iff_ne.mpr c64
                    have c64b1 : (((rd_T66 l0_1 (rd x9_2 (ji51))).f0) != 1) = true := bne_iff_ne.mpr c64
                    obtain ⟨y174, hy174⟩ : ∃ y_ : List Int, y_ = (([(rd_T66 l0_1 (rd x9_2 (ji51))).f6, (rd_T66 l0_1 (rd x9_2 (ji51))).f7] : List Int)) := ⟨_, rfl⟩
                    replace H : (if y167.length + y174.length < 17592186044416 then (thicketref07_Shape.l1 k2 x5_1 y171 (y167 ++ y174) a0_0 l0_1) else (none)) = some (r1, r2) := by first | (rw [hy174]; with_reducible exact H) | (have H2_ := (Option.bind_some _ _).symm.trans H; rw [hy174]; with_reducible exact H2_) | (have H2_ := (Option.bind_some _ _).symm.trans H; with_reducible exact H2_) | with_reducible exact H | (rw [hy174]; exact H) | exact H
                    have Ny174 := Aside0.mk hy174
                    clear hy174
                    by_cases c74 : y167.length + y174.length < 17592186044416
                    ·rw [if_pos c74] at H
                     have LMc74 := Aside0.mk c74
                     clear c74
                     obtain ⟨y177, hy177⟩ : ∃ y_ : List Int, y_ = (y167 ++ y174) := ⟨_, rfl⟩
                     replace H : (thicketref07_Shape.l1 k2 x5_1 y171 y177 a0_0 l0_1) = some (r1, r2) := by first | (rw [hy177]; with_reducible exact H) | (have H2_ := (Option.bind_some _ _).symm.trans H; rw [hy177]; with_reducible exact H2_) | (have H2_ := (Option.bind_some _ _).symm.trans H; with_reducible exact H2_) | with_reducible exact H | (rw [hy177]; exact H) | exact H
                     have Ny177 := Aside0.mk hy177
                     clear hy177
                     have H' := Aside0.mk H
                     clear H
                     obtain ⟨Ao75, co75, eo75⟩ := Kd.R_slice HO_9.out
                     subst eo75
                     have p166 : 0 ≤ ((ji51) : Int) := of_decide_eq_true ka
                     have q166 : (ji51) < (x9_2.length : Int) := of_decide_eq_true ka
                     obtain ⟨ad166, e166, hx166_0⟩ := Kd.at_int (Kd.R_reads' HO_9.out).2.2 (ji51) p166 q166
                     cases e166
                     replace p166 := eq_true p166
                     replace q166 := eq_true q166
                     have q76 : ((ji51) : Int) ≤ ((x9_2.length : Int) : Int) := of_decide_eq_true ka
                     obtain ⟨i076, hi076, _, hsz76, _⟩ := info_parts info3
                     have hcut76 := cut_to (P := Tryd.prog) 63 3 .i64 Tryd.underlying63 hi076 (some ad166) x9_2.length co75 (ji51) (of_decide_eq_true ka) q76 (Kd.R_reads' HO_9.out).2.1
                     have hr76 := Kd.R_take (m := ((ji51) : Int).toNat) HO_9.out (by omega)
                     have hy76 : y167.length = ((ji51) : Int).toNat := (by rw [Ny167.out, List.length_take]; omega)
                     rw [← Ny167.out] at hr76
                     rw [← hy76] at hr76 hcut76
                     clear hy76 hi076 hsz76 HO_9
                     have HO169 := Aside0.mk hr76
                     clear hr76
                     replace q76 := eq_true q76
                     obtain ⟨Ao77, co77, eo77⟩ := Kd.R_slice HO_8.out
                     subst eo77
                     have p170 : 0 ≤ ((rd x9_2 (ji51)) : Int) := of_decide_eq_true ka
                     have q170 : (rd x9_2 (ji51)) < (x8_2.length : Int) := of_decide_eq_true ka
                     obtain ⟨ad170, e170, hx170_0⟩ := Kd.at_bool (Kd.R_reads' HO_8.out).2.2 (rd x9_2 (ji51)) p170 q170
                     (try rw [← Nbq57.out] at hx170_0)
                     cases e170
                     replace p170 := eq_true p170
                     replace q170 := eq_true q170
                     have p62 : 0 ≤ ((rd x9_2 (ji51)) : Int) := of_decide_eq_true ka
                     have q62 : ((rd x9_2 (ji51)) : Int) < ((x8_2.length : Int) : Int) := of_decide_eq_true ka
                     obtain ⟨go62, co62, eo62, gb62, gl62, cl62, HG62⟩ := Kd.R_form HO_8.out (by omega)
                     (first | cases eo62 | (injection eo62 with ea_ en_ ec_; (first | subst ea_ | (injection ea_ with ea_; subst ea_)); subst ec_; clear en_))
                     have GB62 := Aside0.mk gb62
                     have GG62 := Aside0.mk HG62
                     clear gb62 gl62 HG62
                     (first | simp only [add_plain] at hx170_0 | skip)
                     obtain ⟨hx62_0, hf62_0⟩ := Kd.R_celln false HO_8.out ((rd x9_2 (ji51)) : Int) p62 q62
                     replace p62 := eq_true p62
                     replace q62 := eq_true q62
                     have HP78 := Kd.R_putg HO_8.out ((rd x9_2 (ji51)) : Int) true
                     go_wp2_with (first | ((with_reducible refine gate_store (t := 4) (p := 74) rfl ?_); refine store_event (t := 4) (p := 74) (v := ?vo_w79) (w1 := (wr.setCell ⟨go62, ((rd x9_2 (ji51)) : Int).toNat, none⟩ (.bool true))) ?hg ?ho ?hn ?hr ?_; (case ho => rfl); (case hg => rfl); (case hn => rfl); (case hr => first | (go_simp; done) | (go_simp; rfl)); intro w79 hw; have hg : wr.grownBy w79 (some go62) := (by rw [hw]; exact HP78.2); have hp_ : Kd.R Kd.bool 4 w79 w.heap.size (fun _ => True) (.slice (some ⟨go62, 0, none⟩) x8_2.length co77) y171 := (by rw [hw, Ny171.out]; exact HP78.1); clear HP78; have n0_ := Aside0.mk (Kd.R_over' (v := (.slice (some ⟨go62, 0, none⟩) x8_2.length co77)) (kR HO_5) (Kd.R_typed HO_8.out) (by decide) hg); have n1_ := Aside0.mk (hp_); have n2_ := Aside0.mk (Kd.R_over' (v := (.slice (some ⟨go62, 0, none⟩) x8_2.length co77)) (kR HO169) (Kd.R_typed HO_8.out) (by decide) hg); have n3_ := Aside0.mk (blk_grown (g := gb149) (o := .cells #[.int .i64 a0_0, .slice A0_1 l0_1.length c0_1] 36 (0, 0)) (kb BK149) hg (Kd.R_ne HO_8.out BK149.out (by decide))); have n4_ := Aside0.mk ((by rw [hw]; exact below_set (HB.out) GB62.out : Below w.heap.size w w79)); clear HO_5; clear HO_8; clear HO169; clear BK149; clear HB; have HO_5 := n0_; have HO_8 := n1_; have HO169 := n2_; have BK149 := n3_; have HB := n4_; clear n0_ n1_ n2_ n3_ n4_; clear hg hw hp_; have hcz80 := blk2 (w := w79) BK149.out; have p172 : 0 ≤ ((rd x9_2 (ji51)) : Int) := of_decide_eq_true ka; have q172 : (rd x9_2 (ji51)) < (l0_1.length : Int) := of_decide_eq_true ka; obtain ⟨ad172, A172_4, c172_4, e172, hx172_0, hx172_1, hx172_2, hx172_3, hx172_4, hx172_5, hx172_6, hx172_7, hl172_4, hi172_4⟩ := at_T66 HR0_1.out (rd x9_2 (ji51)) p172 q172; cases e172; replace hx172_0 := (HB.out.cell (World.block_lt_of_cell? w _ hx172_0)).trans hx172_0; replace hx172_1 := (HB.out.cell (World.block_lt_of_cell? w _ hx172_1)).trans hx172_1; replace hx172_2 := (HB.out.cell (World.block_lt_of_cell? w _ hx172_2)).trans hx172_2; replace hx172_3 := (HB.out.cell (World.block_lt_of_cell? w _ hx172_3)).trans hx172_3; replace hx172_4 := (HB.out.cell (World.block_lt_of_cell? w _ hx172_4)).trans hx172_4; replace hx172_5 := (HB.out.cell (World.block_lt_of_cell? w _ hx172_5)).trans hx172_5; replace hx172_6 := (HB.out.cell (World.block_lt_of_cell? w _ hx172_6)).trans hx172_6; replace hx172_7 := (HB.out.cell (World.block_lt_of_cell? w _ hx172_7)).trans hx172_7; have HR172_4 := Aside0.mk hi172_4; have HC172_4 := Aside0.mk hl172_4; clear hi172_4 hl172_4; replace p172 := eq_true p172; replace q172 := eq_true q172) | ((with_reducible refine gate_dst (N := 11) rfl ?_); refine box_event ?hg (N := 11) ?hd (cs := #[.int .u8 0, .int .i64 0, .int .i64 0, .float .f64 0, .slice none 0 0, .int .u8 0, .int .i64 0, .int .i64 0]) (t := 66) ?hr ?_; (case hd => rfl); (case hg => rfl); (case hr => first | (go_simp; done) | (go_simp; rfl)); intro gb173 hg w81 hbox hb; have n0_ := Aside0.mk (Kd.R_below (kR HO_5) hb); have n1_ := Aside0.mk (Kd.R_below (kR HO_8) hb); have n2_ := Aside0.mk (Kd.R_below (kR HO169) hb); have n3_ := Aside0.mk (blk_below (g := gb149) (o := .cells #[.int .i64 a0_0, .slice (some ad172) l0_1.length c0_1] 36 (0, 0)) (kb BK149) hb); have n4_ := Aside0.mk (below_step (kB1 HB GE149) hb); have n5_ := Aside0.mk (hbox); have n6_ := Aside0.mk ((kg hg (kB1 HB GE149) : w.heap.size ≤ gb173)); have n7_ := Aside0.mk ((kg hg (kB1 HB GE149) : w.heap.size ≤ gb173)); have n8_ := Aside0.mk ((by rw [hg]; exact Nat.ne_of_lt (blk_lt (g := gb149) (o := .cells #[.int .i64 a0_0, .slice (some ad172) l0_1.length c0_1] 36 (0, 0)) (kb BK149)) : gb149 ≠ gb173)); have n9_ := Aside0.mk ((by rw [hg]; exact Nat.ne_of_gt (blk_lt (g := gb149) (o := .cells #[.int .i64 a0_0, .slice (some ad172) l0_1.length c0_1] 36 (0, 0)) (kb BK149)) : gb173 ≠ gb149)); clear HO_5; clear HO_8; clear HO169; clear BK149; clear HB; have HO_5 := n0_; have HO_8 := n1_; have HO169 := n2_; have BK149 := n3_; have HB := n4_; have BK173 := n5_; have GW173 := n6_; have GE173 := n7_; have NB149_173 := n8_; have NB173_149 := n9_; clear n0_ n1_ n2_ n3_ n4_ n5_ n6_ n7_ n8_ n9_; clear hb hbox hg; have hnb82 := NB173_149.out; have hnc82 := NB149_173.out; have hcz83 := blk8 (w := w81) BK173.out) | ((with_reducible refine gate_dst (N := 88) rfl ?_); refine Kd.R_lit (Kd.int .i64) _ 3 ?hg (N := 88) ?hd (xs := ([(rd_T66 l0_1 (rd x9_2 (ji51))).f6, (rd_T66 l0_1 (rd x9_2 (ji51))).f7] : List Int)) (inner := [.int .i64 ((rd_T66 l0_1 (rd x9_2 (ji51))).f6), .int .i64 ((rd_T66 l0_1 (rd x9_2 (ji51))).f7)]) (ok := fun _ => True) (okp := fun _ => True) ?hr ?hp (fun _ hk => hk) trivial (Below.refl _ _) (Nat.le_refl _) (by simp) ?_; (case hd => rfl); (case hg => rfl); (case hr => first | (go_simp; done) | (go_simp; rfl)); (case hp => exact (Reps.one (show Kd.M (Kd.int .i64) _ _ _ ((rd_T66 l0_1 (rd x9_2 (ji51))).f6) [.int .i64 ((rd_T66 l0_1 (rd x9_2 (ji51))).f6)] from rfl) (Reps.one (show Kd.M (Kd.int .i64) _ _ _ ((rd_T66 l0_1 (rd x9_2 (ji51))).f7) [.int .i64 ((rd_T66 l0_1 (rd x9_2 (ji51))).f7)] from rfl) (Reps.none _ _)))); intro v175 w84 ho85 hb hg_ hnew_; clear hg_ hnew_; (first | rw [← Ny174.out] at ho85 | (simp only [Int.reduceToNat] at ho85; rw [← Ny174.out] at ho85)); have n0_ := Aside0.mk (Kd.R_elder' (by (with_reducible repeat (first | apply Kd.R_alloc | apply Kd.R_drewN | apply Kd.R_drew)); exact (Kd.R_mono (Kd.R_far (p := ⟨gb173, 7, none⟩) (Kd.R_far (p := ⟨gb173, 6, none⟩) (Kd.R_far (p := ⟨gb173, 5, none⟩) (Kd.R_far (p := ⟨gb173, 4, none⟩) (Kd.R_far (p := ⟨gb173, 3, none⟩) (Kd.R_far (p := ⟨gb173, 2, none⟩) (Kd.R_far (p := ⟨gb173, 1, none⟩) (Kd.R_far (p := ⟨gb173, 0, none⟩) (Kd.R_types HO_5.out BK173.out (by decide)) (fun _ hk => hk.2) (.int .u8 ((rd_T66 l0_1 (rd x9_2 (ji51))).f0))) (fun _ hk => hk.2) (.int .i64 ((rd_T66 l0_1 (rd x9_2 (ji51))).f1))) (fun _ hk => hk.2) (.int .i64 ((rd_T66 l0_1 (rd x9_2 (ji51))).f2))) (fun _ hk => hk.2) (.float .f64 ((rd_T66 l0_1 (rd x9_2 (ji51))).f3))) (fun _ hk => hk.2) (.slice A172_4 ((rd_T66 l0_1 (rd x9_2 (ji51))).f4).length c172_4)) (fun _ hk => hk.2) (.int .u8 ((rd_T66 l0_1 (rd x9_2 (ji51))).f5))) (fun _ hk => hk.2) (.int .i64 ((rd_T66 l0_1 (rd x9_2 (ji51))).f6))) (fun _ hk => hk.2) (.int .i64 ((rd_T66 l0_1 (rd x9_2 (ji51))).f7))) (fun _ h_ => h_.1))) (Kd.R_base ho85) hb); have n1_ := Aside0.mk (Kd.R_below (by (with_reducible repeat (first | apply Kd.R_alloc | apply Kd.R_drewN | apply Kd.R_drew)); exact (Kd.R_mono (Kd.R_far (p := ⟨gb173, 7, none⟩) (Kd.R_far (p := ⟨gb173, 6, none⟩) (Kd.R_far (p := ⟨gb173, 5, none⟩) (Kd.R_far (p := ⟨gb173, 4, none⟩) (Kd.R_far (p := ⟨gb173, 3, none⟩) (Kd.R_far (p := ⟨gb173, 2, none⟩) (Kd.R_far (p := ⟨gb173, 1, none⟩) (Kd.R_far (p := ⟨gb173, 0, none⟩) (Kd.R_types HO_8.out BK173.out (by decide)) (fun _ hk => hk.2) (.int .u8 ((rd_T66 l0_1 (rd x9_2 (ji51))).f0))) (fun _ hk => hk.2) (.int .i64 ((rd_T66 l0_1 (rd x9_2 (ji51))).f1))) (fun _ hk => hk.2) (.int .i64 ((rd_T66 l0_1 (rd x9_2 (ji51))).f2))) (fun _ hk => hk.2) (.float .f64 ((rd_T66 l0_1 (rd x9_2 (ji51))).f3))) (fun _ hk => hk.2) (.slice A172_4 ((rd_T66 l0_1 (rd x9_2 (ji51))).f4).length c172_4)) (fun _ hk => hk.2) (.int .u8 ((rd_T66 l0_1 (rd x9_2 (ji51))).f5))) (fun _ hk => hk.2) (.int .i64 ((rd_T66 l0_1 (rd x9_2 (ji51))).f6))) (fun _ hk => hk.2) (.int .i64 ((rd_T66 l0_1 (rd x9_2 (ji51))).f7))) (fun _ h_ => h_.1))) hb); have n2_ := Aside0.mk (Kd.R_elder' (by (with_reducible repeat (first | apply Kd.R_alloc | apply Kd.R_drewN | apply Kd.R_drew)); exact (Kd.R_mono (Kd.R_far (p := ⟨gb173, 7, none⟩) (Kd.R_far (p := ⟨gb173, 6, none⟩) (Kd.R_far (p := ⟨gb173, 5, none⟩) (Kd.R_far (p := ⟨gb173, 4, none⟩) (Kd.R_far (p := ⟨gb173, 3, none⟩) (Kd.R_far (p := ⟨gb173, 2, none⟩) (Kd.R_far (p := ⟨gb173, 1, none⟩) (Kd.R_far (p := ⟨gb173, 0, none⟩) (Kd.R_types HO169.out BK173.out (by decide)) (fun _ hk => hk.2) (.int .u8 ((rd_T66 l0_1 (rd x9_2 (ji51))).f0))) (fun _ hk => hk.2) (.int .i64 ((rd_T66 l0_1 (rd x9_2 (ji51))).f1))) (fun _ hk => hk.2) (.int .i64 ((rd_T66 l0_1 (rd x9_2 (ji51))).f2))) (fun _ hk => hk.2) (.float .f64 ((rd_T66 l0_1 (rd x9_2 (ji51))).f3))) (fun _ hk => hk.2) (.slice A172_4 ((rd_T66 l0_1 (rd x9_2 (ji51))).f4).length c172_4)) (fun _ hk => hk.2) (.int .u8 ((rd_T66 l0_1 (rd x9_2 (ji51))).f5))) (fun _ hk => hk.2) (.int .i64 ((rd_T66 l0_1 (rd x9_2 (ji51))).f6))) (fun _ hk => hk.2) (.int .i64 ((rd_T66 l0_1 (rd x9_2 (ji51))).f7))) (fun _ h_ => h_.1))) (Kd.R_base ho85) hb); have n3_ := Aside0.mk (Kd.R_lower (Kd.R_new' (Kd.R_new' ho85 (Kd.R_lt (by (with_reducible repeat (first | apply Kd.R_alloc | apply Kd.R_drewN | apply Kd.R_drew)); exact (Kd.R_mono (Kd.R_far (p := ⟨gb173, 7, none⟩) (Kd.R_far (p := ⟨gb173, 6, none⟩) (Kd.R_far (p := ⟨gb173, 5, none⟩) (Kd.R_far (p := ⟨gb173, 4, none⟩) (Kd.R_far (p := ⟨gb173, 3, none⟩) (Kd.R_far (p := ⟨gb173, 2, none⟩) (Kd.R_far (p := ⟨gb173, 1, none⟩) (Kd.R_far (p := ⟨gb173, 0, none⟩) (Kd.R_types HO_5.out BK173.out (by decide)) (fun _ hk => hk.2) (.int .u8 ((rd_T66 l0_1 (rd x9_2 (ji51))).f0))) (fun _ hk => hk.2) (.int .i64 ((rd_T66 l0_1 (rd x9_2 (ji51))).f1))) (fun _ hk => hk.2) (.int .i64 ((rd_T66 l0_1 (rd x9_2 (ji51))).f2))) (fun _ hk => hk.2) (.float .f64 ((rd_T66 l0_1 (rd x9_2 (ji51))).f3))) (fun _ hk => hk.2) (.slice A172_4 ((rd_T66 l0_1 (rd x9_2 (ji51))).f4).length c172_4)) (fun _ hk => hk.2) (.int .u8 ((rd_T66 l0_1 (rd x9_2 (ji51))).f5))) (fun _ hk => hk.2) (.int .i64 ((rd_T66 l0_1 (rd x9_2 (ji51))).f6))) (fun _ hk => hk.2) (.int .i64 ((rd_T66 l0_1 (rd x9_2 (ji51))).f7))) (fun _ h_ => h_.1))))) (Kd.R_lt (by (with_reducible repeat (first | apply Kd.R_alloc | apply Kd.R_drewN | apply Kd.R_drew)); exact (Kd.R_mono (Kd.R_far (p := ⟨gb173, 7, none⟩) (Kd.R_far (p := ⟨gb173, 6, none⟩) (Kd.R_far (p := ⟨gb173, 5, none⟩) (Kd.R_far (p := ⟨gb173, 4, none⟩) (Kd.R_far (p := ⟨gb173, 3, none⟩) (Kd.R_far (p := ⟨gb173, 2, none⟩) (Kd.R_far (p := ⟨gb173, 1, none⟩) (Kd.R_far (p := ⟨gb173, 0, none⟩) (Kd.R_types HO169.out BK173.out (by decide)) (fun _ hk => hk.2) (.int .u8 ((rd_T66 l0_1 (rd x9_2 (ji51))).f0))) (fun _ hk => hk.2) (.int .i64 ((rd_T66 l0_1 (rd x9_2 (ji51))).f1))) (fun _ hk => hk.2) (.int .i64 ((rd_T66 l0_1 (rd x9_2 (ji51))).f2))) (fun _ hk => hk.2) (.float .f64 ((rd_T66 l0_1 (rd x9_2 (ji51))).f3))) (fun _ hk => hk.2) (.slice A172_4 ((rd_T66 l0_1 (rd x9_2 (ji51))).f4).length c172_4)) (fun _ hk => hk.2) (.int .u8 ((rd_T66 l0_1 (rd x9_2 (ji51))).f5))) (fun _ hk => hk.2) (.int .i64 ((rd_T66 l0_1 (rd x9_2 (ji51))).f6))) (fun _ hk => hk.2) (.int .i64 ((rd_T66 l0_1 (rd x9_2 (ji51))).f7))) (fun _ h_ => h_.1))))) (below_size (kB2 HB GE149 GE173))); have n4_ := Aside0.mk (blk_below (g := gb149) (o := .cells #[.int .i64 a0_0, .slice (some ad172) l0_1.length c0_1] 36 (0, 0)) (by (with_reducible repeat (first | refine blk_drewN ?_ _ | refine blk_drew ?_ | refine blk_alloc ?_ _)); refine blk_far ?_ NB149_173.out _; (with_reducible repeat (first | refine blk_drewN ?_ _ | refine blk_drew ?_ | refine blk_alloc ?_ _)); refine blk_far ?_ NB149_173.out _; (with_reducible repeat (first | refine blk_drewN ?_ _ | refine blk_drew ?_ | refine blk_alloc ?_ _)); refine blk_far ?_ NB149_173.out _; (with_reducible repeat (first | refine blk_drewN ?_ _ | refine blk_drew ?_ | refine blk_alloc ?_ _)); refine blk_far ?_ NB149_173.out _; (with_reducible repeat (first | refine blk_drewN ?_ _ | refine blk_drew ?_ | refine blk_alloc ?_ _)); refine blk_far ?_ NB149_173.out _; (with_reducible repeat (first | refine blk_drewN ?_ _ | refine blk_drew ?_ | refine blk_alloc ?_ _)); refine blk_far ?_ NB149_173.out _; (with_reducible repeat (first | refine blk_drewN ?_ _ | refine blk_drew ?_ | refine blk_alloc ?_ _)); refine blk_far ?_ NB149_173.out _; (with_reducible repeat (first | refine blk_drewN ?_ _ | refine blk_drew ?_ | refine blk_alloc ?_ _)); refine blk_far ?_ NB149_173.out _; (with_reducible repeat (first | refine blk_drewN ?_ _ | refine blk_drew ?_ | refine blk_alloc ?_ _)); exact BK149.out) hb); have n5_ := Aside0.mk (blk_below (g := gb173) (o := .cells #[.int .u8 ((rd_T66 l0_1 (rd x9_2 (ji51))).f0), .int .i64 ((rd_T66 l0_1 (rd x9_2 (ji51))).f1), .int .i64 ((rd_T66 l0_1 (rd x9_2 (ji51))).f2), .float .f64 ((rd_T66 l0_1 (rd x9_2 (ji51))).f3), .slice A172_4 ((rd_T66 l0_1 (rd x9_2 (ji51))).f4).length c172_4, .int .u8 ((rd_T66 l0_1 (rd x9_2 (ji51))).f5), .int .i64 ((rd_T66 l0_1 (rd x9_2 (ji51))).f6), .int .i64 ((rd_T66 l0_1 (rd x9_2 (ji51))).f7)] 66 (0, 0)) (by (with_reducible repeat (first | refine blk_drewN ?_ _ | refine blk_drew ?_ | refine blk_alloc ?_ _)); refine blk_put (cs := #[.int .u8 ((rd_T66 l0_1 (rd x9_2 (ji51))).f0), .int .i64 ((rd_T66 l0_1 (rd x9_2 (ji51))).f1), .int .i64 ((rd_T66 l0_1 (rd x9_2 (ji51))).f2), .float .f64 ((rd_T66 l0_1 (rd x9_2 (ji51))).f3), .slice A172_4 ((rd_T66 l0_1 (rd x9_2 (ji51))).f4).length c172_4, .int .u8 ((rd_T66 l0_1 (rd x9_2 (ji51))).f5), .int .i64 ((rd_T66 l0_1 (rd x9_2 (ji51))).f6), .int .i64 0]) ?_ 7 _ rfl; (with_reducible repeat (first | refine blk_drewN ?_ _ | refine blk_drew ?_ | refine blk_alloc ?_ _)); refine blk_put (cs := #[.int .u8 ((rd_T66 l0_1 (rd x9_2 (ji51))).f0), .int .i64 ((rd_T66 l0_1 (rd x9_2 (ji51))).f1), .int .i64 ((rd_T66 l0_1 (rd x9_2 (ji51))).f2), .float .f64 ((rd_T66 l0_1 (rd x9_2 (ji51))).f3), .slice A172_4 ((rd_T66 l0_1 (rd x9_2 (ji51))).f4).length c172_4, .int .u8 ((rd_T66 l0_1 (rd x9_2 (ji51))).f5), .int .i64 0, .int .i64 0]) ?_ 6 _ rfl; (with_reducible repeat (first | refine blk_drewN ?_ _ | refine blk_drew ?_ | refine blk_alloc ?_ _)); refine blk_put (cs := #[.int .u8 ((rd_T66 l0_1 (rd x9_2 (ji51))).f0), .int .i64 ((rd_T66 l0_1 (rd x9_2 (ji51))).f1), .int .i64 ((rd_T66 l0_1 (rd x9_2 (ji51))).f2), .float .f64 ((rd_T66 l0_1 (rd x9_2 (ji51))).f3), .slice A172_4 ((rd_T66 l0_1 (rd x9_2 (ji51))).f4).length c172_4, .int .u8 0, .int .i64 0, .int .i64 0]) ?_ 5 _ rfl; (with_reducible repeat (first | refine blk_drewN ?_ _ | refine blk_drew ?_ | refine blk_alloc ?_ _)); refine blk_put (cs := #[.int .u8 ((rd_T66 l0_1 (rd x9_2 (ji51))).f0), .int .i64 ((rd_T66 l0_1 (rd x9_2 (ji51))).f1), .int .i64 ((rd_T66 l0_1 (rd x9_2 (ji51))).f2), .float .f64 ((rd_T66 l0_1 (rd x9_2 (ji51))).f3), .slice none 0 0, .int .u8 0, .int .i64 0, .int .i64 0]) ?_ 4 _ rfl; (with_reducible repeat (first | refine blk_drewN ?_ _ | refine blk_drew ?_ | refine blk_alloc ?_ _)); refine blk_put (cs := #[.int .u8 ((rd_T66 l0_1 (rd x9_2 (ji51))).f0), .int .i64 ((rd_T66 l0_1 (rd x9_2 (ji51))).f1), .int .i64 ((rd_T66 l0_1 (rd x9_2 (ji51))).f2), .float .f64 0, .slice none 0 0, .int .u8 0, .int .i64 0, .int .i64 0]) ?_ 3 _ rfl; (with_reducible repeat (first | refine blk_drewN ?_ _ | refine blk_drew ?_ | refine blk_alloc ?_ _)); refine blk_put (cs := #[.int .u8 ((rd_T66 l0_1 (rd x9_2 (ji51))).f0), .int .i64 ((rd_T66 l0_1 (rd x9_2 (ji51))).f1), .int .i64 0, .float .f64 0, .slice none 0 0, .int .u8 0, .int .i64 0, .int .i64 0]) ?_ 2 _ rfl; (with_reducible repeat (first | refine blk_drewN ?_ _ | refine blk_drew ?_ | refine blk_alloc ?_ _)); refine blk_put (cs := #[.int .u8 ((rd_T66 l0_1 (rd x9_2 (ji51))).f0), .int .i64 0, .int .i64 0, .float .f64 0, .slice none 0 0, .int .u8 0, .int .i64 0, .int .i64 0]) ?_ 1 _ rfl; (with_reducible repeat (first | refine blk_drewN ?_ _ | refine blk_drew ?_ | refine blk_alloc ?_ _)); refine blk_put (cs := #[.int .u8 0, .int .i64 0, .int .i64 0, .float .f64 0, .slice none 0 0, .int .u8 0, .int .i64 0, .int .i64 0]) ?_ 0 _ rfl; (with_reducible repeat (first | refine blk_drewN ?_ _ | refine blk_drew ?_ | refine blk_alloc ?_ _)); exact BK173.out) hb); have n6_ := Aside0.mk (below_step (kB2 HB GE149 GE173) hb); clear HO_5; clear HO_8; clear HO169; clear BK149; clear BK173; clear HB; have HO_5 := n0_; have HO_8 := n1_; have HO169 := n2_; have HO176 := n3_; have BK149 := n4_; have BK173 := n5_; have HB := n6_; clear n0_ n1_ n2_ n3_ n4_ n5_ n6_; clear hb ho85; obtain ⟨Ao87, co87, eo87⟩ := Kd.R_slice HO176.out; subst eo87) | ((with_reducible refine gate_builtin (b := .append) (xs := #[.tmp 83, .tmp 88]) rfl ?_); at_builtin; refine Kd.R_append_rows (Kd.int .i64) (w0 := w) w.heap.size rfl (.tmp 83) (.tmp 88) 63 3 (.int .i64 0) 8 rfl Tryd.underlying63 info3 rfl (by decide) (by omega) (.slice (some ad166) y167.length co75) y167 y174 _ _ _ (fun k_ => some k_ ≠ (v151 : Value).ownBlock ∧ some k_ ≠ (.slice Ao87 y174.length co87 : Value).ownBlock) (fun _ => False) rfl rfl ?aO ?aR (fun _ _ h => h) (fun _ h => h.elim) ?aF ?aB ?aS ?aL ?_; (case aR => repeat (first | exact (Kd.R_reads' HO176.out).2.2 | (with_reducible refine Kd.C_alloc ?_ _) | (with_reducible refine Kd.C_drewN ?_ _) | (with_reducible refine Kd.C_drew ?_))); (case aB => exact (kB2 HB GE149 GE173)); (case aF => exact (fun k_ hk => ⟨Kd.fresh' (Kd.R_lt (kR HO_5)) k_ hk, Kd.fresh' (Kd.R_lt (kR HO176)) k_ hk⟩)); (case aO => exact (kR HO169)); (case aS => exact (below_size (kB2 HB GE149 GE173))); (case aL => have := LMc74.out; omega); intro v178 w86 ho hb hg hat; rw [← Ny177.out] at ho; have n0_ := Aside0.mk (Kd.R_after (ok := (fun k_ => some k_ ≠ (.slice Ao87 y174.length co87 : Value).ownBlock)) (by (with_reducible repeat (first | apply Kd.R_alloc | apply Kd.R_drewN | apply Kd.R_drew)); exact Kd.R_mono HO_5.out (fun _ hk => ⟨hk.2, hk.1⟩)) hg hat); have n1_ := Aside0.mk (Kd.R_over' (kR HO_8) (Kd.R_typed (kR HO169)) (by decide) hg); have n2_ := Aside0.mk (blk_grown (g := gb149) (o := .cells #[.int .i64 a0_0, .slice (some ad172) l0_1.length c0_1] 36 (0, 0)) (kb BK149) hg (Kd.R_ne HO169.out BK149.out (by decide))); have n3_ := Aside0.mk (blk_grown (g := gb173) (o := .cells #[.int .u8 ((rd_T66 l0_1 (rd x9_2 (ji51))).f0), .int .i64 ((rd_T66 l0_1 (rd x9_2 (ji51))).f1), .int .i64 ((rd_T66 l0_1 (rd x9_2 (ji51))).f2), .float .f64 ((rd_T66 l0_1 (rd x9_2 (ji51))).f3), .slice A172_4 ((rd_T66 l0_1 (rd x9_2 (ji51))).f4).length c172_4, .int .u8 ((rd_T66 l0_1 (rd x9_2 (ji51))).f5), .int .i64 ((rd_T66 l0_1 (rd x9_2 (ji51))).f6), .int .i64 ((rd_T66 l0_1 (rd x9_2 (ji51))).f7)] 66 (0, 0)) (kb BK173) hg (Kd.R_ne HO169.out BK173.out (by decide))); have n4_ := Aside0.mk (Kd.R_after (ok := (fun k_ => some k_ ≠ (v151 : Value).ownBlock)) (by (with_reducible repeat (first | apply Kd.R_alloc | apply Kd.R_drewN | apply Kd.R_drew)); exact Kd.R_mono HO176.out (fun _ hk => ⟨hk.1.2, hk.2⟩)) hg hat); have n5_ := Aside0.mk (hb); have n6_ := Aside0.mk (ho); clear HO_5; clear HO_8; clear BK149; clear BK173; clear HO176; clear HB; clear HO169; have HO_5 := n0_; have HO_8 := n1_; have BK149 := n2_; have BK173 := n3_; have HO176 := n4_; have HB := n5_; have HO179 := n6_; clear n0_ n1_ n2_ n3_ n4_ n5_ n6_; clear ho hb hg hat))
                     go_roundg k2
                     case measure => have := HK1.out; have := HK2.out; omega
                     case rel => exact ⟨(y171), (y177), H', ⟨by have := HK1.out; have := HK2.out; omega⟩, ⟨by (with_reducible repeat (first | apply Kd.R_alloc | apply Kd.R_drewN | apply Kd.R_drew)); exact Kd.R_mono HO_5.out (fun _ hk => hk.2)⟩, ⟨kR HO_8⟩, ⟨by (with_reducible repeat (first | apply Kd.R_alloc | apply Kd.R_drewN | apply Kd.R_drew)); exact Kd.R_mono HO179.out (fun _ hk => hk.1)⟩, ⟨kb BK149⟩, ⟨kB2 HB GE149 GE173⟩⟩
                    ·rw [if_neg c74] at H
                     exact absurd H (by simp)
                  ·rw [if_neg c63] at H
                   exact absurd H (by simp)
                ·rw [if_neg c56] at H
                 exact absurd H (by simp)
               ·rw [if_neg c55] at H
                exact absurd H (by simp)
              ·rw [if_neg c54] at H
               exact absurd H (by simp)
             ·rw [if_neg c53] at H
              exact absurd H (by simp)
            ·rw [if_neg c52] at H
             exact absurd H (by simp)
           ·rw [if_neg c50] at H
            have c50b0 : decide (0 < (x9_2.length : Int)) = false := decide_eq_false c50
            have c50b1 : decide (0 < x9_2.length) = false := decide_eq_false (by omega)
            clear c50
            have H' := Aside0.mk H
            clear H
            obtain ⟨Ao88, co88, eo88⟩ := Kd.R_slice HO_9.out
            subst eo88
            have hcz89 := blk2 (w := wr) BK149.out
            go_wp2
            go_loopg [93] k2 (fun kq v93 w' => ∃ (x93_3 : Int), v93 = .int .i64 x93_3 ∧ Aside0 (thicketref07_Shape.l2 kq x5_1 x8_2 (l0_1.length : Int) x93_3 = some (r1, r2)) ∧ Aside0 (kq ≤ k2) ∧ Aside0 (Kd.R (Kd.int .i64) 3 w' w.heap.size (fun _ => True) v151 x5_1) ∧ Aside0 (Kd.R Kd.bool 4 w' w.heap.size (fun _ => True) v161 x8_2) ∧ Aside0 (w'.heap[gb149]? = some (.cells #[.int .i64 a0_0, (.slice A0_1 l0_1.length c0_1)] 36 (0, 0))) ∧ Aside0 (Below w.heap.size w w'))
            case atStart => exact ⟨(0), kr, H', ⟨Nat.le_refl _⟩, ⟨by (with_reducible repeat (first | apply Kd.R_alloc | apply Kd.R_drewN | apply Kd.R_drew)); exact Kd.R_mono HO_5.out (fun _ hk => trivial)⟩, ⟨kR HO_8⟩, ⟨kb BK149⟩, ⟨kB1 HB GE149⟩⟩
            case round =>
             clear H'
             try clear c1
             try clear p1
             try clear q1
             try clear hx1
             try clear c2
             try clear c2b0
             try clear c2b1
             try clear c2b2
             try clear p2
             try clear q2
             try clear hx2
             try clear hf2
             try clear c3
             try clear c4
             try clear c5
             try clear c5b0
             try clear c5b1
             try clear q5
             try clear c6
             try clear c6b0
             try clear c6b1
             try clear p6
             try clear q6
             try clear hx6
             try clear hf6
             try clear c7
             try clear q7
             try clear c8
             try clear c12
             try clear c12b0
             try clear c13
             try clear c13b0
             try clear c14
             try clear c14b0
             try clear c15
             try clear p15
             try clear q15
             try clear hx15
             try clear c16
             try clear p16
             try clear q16
             try clear hx16
             try clear c17
             try clear c17b0
             try clear c17b1
             try clear p17
             try clear q17
             try clear hx17
             try clear c19
             try clear c23
             try clear c23b0
             try clear c24
             try clear c24b0
             try clear p25
             try clear q25
             try clear hx25
             try clear hf25
             try clear c26
             try clear c26b0
             try clear c27
             try clear c27b0
             try clear p28
             try clear q28
             try clear hx28
             try clear hf28
             try clear c30
             try clear c32
             try clear c41
             try clear c44
             try clear c44b0
             try clear c44b1
             try clear c45
             try clear c45b0
             try clear c45b1
             try clear c50
             try clear c50b0
             try clear c50b1
             try clear c52
             try clear c52b0
             try clear c53
             try clear c53b0
             try clear c54
             try clear c54b0
             try clear c54b1
             try clear c55
             try clear c55b0
             try clear c56
             try clear c56b0
             try clear q57
             try clear c58
             try clear q60
             try clear p62
             try clear q62
             try clear hx62
             try clear hf62
             try clear c63
             try clear c63b0
             try clear c64
             try clear c64b0
             try clear c64b1
             try clear p64
             try clear q66
             try clear c72
             try clear c74
             try clear q76
             try clear c82
             try clear hcz11
             try clear hcz20
             try clear hcz22
             try clear hcz31
             try clear hcz33
             try clear hcz37
             try clear hcz42
             try clear hcz4
             try clear hcz70
             try clear hcz73
             try clear hcz80
             try clear hcz83
             try clear hcz89
             try clear hcz8
             try clear hx153_0
             try clear hx153_1
             try clear hx153_2
             try clear hx153_3
             try clear hx153_4
             try clear hx153_5
             try clear hx153_6
             try clear hx153_7
             try clear hx156_0
             try clear hx158_0
             try clear hx166_0
             try clear hx170_0
             try clear hx172_0
             try clear hx172_1
             try clear hx172_2
             try clear hx172_3
             try clear hx172_4
             try clear hx172_5
             try clear hx172_6
             try clear hx172_7
             try clear hx25_0
             try clear hx28_0
             try clear hx62_0
             try clear p153
             try clear p156
             try clear p158
             try clear p166
             try clear p170
             try clear p172
             try clear q153
             try clear q156
             try clear q158
             try clear q166
             try clear q170
             try clear q172
             obtain ⟨x93_3, rfl, HA, HK3, HO_5, HO_8, BK149, HB⟩ := hrel
             cases gk with
             | zero => exact absurd HA.out (by simp [thicketref07_Shape.l2])
             | succ k3 =>
              have H := HA.out
              clear HA
              simp only [thicketref07_Shape.l2] at H
              by_cases c90 : x93_3 < (l0_1.length : Int)
              ·rw [if_pos c90] at H
               have c90b0 : decide (x93_3 < (l0_1.length : Int)) = true := decide_eq_true c90
               clear c90
               by_cases c91 : x93_3 = 0
               ·rw [if_pos c91] at H
                have c91b0 : (x93_3 == 0) = true := beq_iff_eq.mpr c91
                have c91b1 : (x93_3 != 0) = false := bne_eq_false_iff_eq.mpr c91
                clear c91
                by_cases c92 : 0 ≤ x93_3
                ·rw [if_pos c92] at H
                 have c92b0 : decide (0 ≤ x93_3) = true := decide_eq_true c92
                 clear c92
                 by_cases c93 : x93_3 < (x5_1.length : Int)
                 ·rw [if_pos c93] at H
                  have c93b0 : decide (x93_3 < (x5_1.length : Int)) = true := decide_eq_true c93
                  clear c93
                  by_cases c94 : (rd x5_1 x93_3) = 0
                  ·rw [if_pos c94] at H
                   have c94b0 : ((rd x5_1 x93_3) == 0) = true := beq_iff_eq.mpr c94
                   have c94b1 : ((rd x5_1 x93_3) != 0) = false := bne_eq_false_iff_eq.mpr c94
                   clear c94
                   by_cases c95 : x93_3 > 0
                   ·rw [if_pos c95] at H
                    have c95b0 : decide (0 < x93_3) = true := decide_eq_true c95
                    clear c95
                    by_cases c96 : (rd x5_1 x93_3) = 1
                    ·rw [if_pos c96] at H
                     have c96b0 : ((rd x5_1 x93_3) == 1) = true := beq_iff_eq.mpr c96
                     have c96b1 : ((rd x5_1 x93_3) != 1) = false := bne_eq_false_iff_eq.mpr c96
                     clear c96
                     by_cases c97 : x93_3 < (x8_2.length : Int)
                     ·rw [if_pos c97] at H
                      have c97b0 : decide (x93_3 < (x8_2.length : Int)) = true := decide_eq_true c97
                      clear c97
                      obtain ⟨bq98, hbq98⟩ : ∃ b_ : Bool, b_ = (rdOf false x8_2 x93_3) := ⟨_, rfl⟩
                      replace H : (if bq98 = true then (thicketref07_Shape.l2 k3 x5_1 x8_2 (l0_1.length : Int) (wrap64 (x93_3 + 1))) else (some (70, x93_3))) = some (r1, r2) := by rw [← hbq98] at H; exact H
                      have Nbq98 := Aside0.mk hbq98
                      clear hbq98
                      by_cases c99 : bq98 = true
                      ·subst c99
                       have H1 : (thicketref07_Shape.l2 k3 x5_1 x8_2 (l0_1.length : Int) (wrap64 (x93_3 + 1))) = some (r1, r2) := by rw [if_pos rfl] at H; exact H
                       clear H
                       have H := H1
                       clear H1
                       have H' := Aside0.mk H
                       clear H
                       obtain ⟨Ao100, co100, eo100⟩ := Kd.R_slice HO_5.out
                       subst eo100
                       have p180 : 0 ≤ (x93_3 : Int) := of_decide_eq_true ka
                       have q180 : x93_3 < (x5_1.length : Int) := of_decide_eq_true ka
                       obtain ⟨ad180, e180, hx180_0⟩ := Kd.at_int (Kd.R_reads' HO_5.out).2.2 x93_3 p180 q180
                       cases e180
                       replace p180 := eq_true p180
                       replace q180 := eq_true q180
                       have p181 : 0 ≤ (x93_3 : Int) := of_decide_eq_true ka
                       have q181 : x93_3 < (x5_1.length : Int) := of_decide_eq_true ka
                       obtain ⟨ad181, e181, hx181_0⟩ := Kd.at_int (Kd.R_reads' HO_5.out).2.2 x93_3 p181 q181
                       obtain rfl : ad180 = ad181 := (by injection e181)
                       replace p181 := eq_true p181
                       replace q181 := eq_true q181
                       obtain ⟨Ao101, co101, eo101⟩ := Kd.R_slice HO_8.out
                       subst eo101
                       have p182 : 0 ≤ (x93_3 : Int) := of_decide_eq_true ka
                       have q182 : x93_3 < (x8_2.length : Int) := of_decide_eq_true ka
                       obtain ⟨ad182, e182, hx182_0⟩ := Kd.at_bool (Kd.R_reads' HO_8.out).2.2 x93_3 p182 q182
                       (try rw [← Nbq98.out] at hx182_0)
                       cases e182
                       replace p182 := eq_true p182
                       replace q182 := eq_true q182
                       go_wp2
                       go_roundg k3
                       case measure => have := HK1.out; have := HK2.out; have := HK3.out; omega
                       case rel => exact ⟨(wrap64 (x93_3 + 1)), kr, H', ⟨by have := HK1.out; have := HK2.out; have := HK3.out; omega⟩, ⟨kR HO_5⟩, ⟨kR HO_8⟩, ⟨kb BK149⟩, ⟨kB1 HB GE149⟩⟩
                      ·replace c99 := Bool.eq_false_iff.mpr c99
                       subst c99
                       have H1 : (some (70, x93_3)) = some (r1, r2) := by rw [if_neg (show ¬ (false = true) by decide)] at H; exact H
                       clear H
                       have H := H1
                       clear H1
                       simp only [Option.some.injEq, Prod.mk.injEq] at H
                       obtain ⟨rfl, rfl⟩ := H
                       obtain ⟨Ao102, co102, eo102⟩ := Kd.R_slice HO_5.out
                       subst eo102
                       have p180 : 0 ≤ (x93_3 : Int) := of_decide_eq_true ka
                       have q180 : x93_3 < (x5_1.length : Int) := of_decide_eq_true ka
                       obtain ⟨ad180, e180, hx180_0⟩ := Kd.at_int (Kd.R_reads' HO_5.out).2.2 x93_3 p180 q180
                       cases e180
                       replace p180 := eq_true p180
                       replace q180 := eq_true q180
                       have p181 : 0 ≤ (x93_3 : Int) := of_decide_eq_true ka
                       have q181 : x93_3 < (x5_1.length : Int) := of_decide_eq_true ka
                       obtain ⟨ad181, e181, hx181_0⟩ := Kd.at_int (Kd.R_reads' HO_5.out).2.2 x93_3 p181 q181
                       obtain rfl : ad180 = ad181 := (by injection e181)
                       replace p181 := eq_true p181
                       replace q181 := eq_true q181
                       obtain ⟨Ao103, co103, eo103⟩ := Kd.R_slice HO_8.out
                       subst eo103
                       have p182 : 0 ≤ (x93_3 : Int) := of_decide_eq_true ka
                       have q182 : x93_3 < (x8_2.length : Int) := of_decide_eq_true ka
                       obtain ⟨ad182, e182, hx182_0⟩ := Kd.at_bool (Kd.R_reads' HO_8.out).2.2 x93_3 p182 q182
                       (try rw [← Nbq98.out] at hx182_0)
                       cases e182
                       replace p182 := eq_true p182
                       replace q182 := eq_true q182
                       go_wp2
                       go_ret2
                       exact ⟨by first | rfl | (simp [errW_none, errW_some] <;> rfl) | (simp [*, errW_none, errW_some] <;> rfl), kB1 HB GE149⟩
                     ·rw [if_neg c97] at H
                      exact absurd H (by simp)
                    ·rw [if_neg c96] at H
                     have c96b0 : ((rd x5_1 x93_3) == 1) = false := beq_eq_false_iff_ne.mpr c96
                     have c96b1 : ((rd x5_1 x93_3) != 1) = true := bne_iff_ne.mpr c96
                     simp only [Option.some.injEq, Prod.mk.injEq] at H
                     obtain ⟨rfl, rfl⟩ := H
                     obtain ⟨Ao104, co104, eo104⟩ := Kd.R_slice HO_5.out
                     subst eo104
                     have p180 : 0 ≤ (x93_3 : Int) := of_decide_eq_true ka
                     have q180 : x93_3 < (x5_1.length : Int) := of_decide_eq_true ka
                     obtain ⟨ad180, e180, hx180_0⟩ := Kd.at_int (Kd.R_reads' HO_5.out).2.2 x93_3 p180 q180
                     cases e180
                     replace p180 := eq_true p180
                     replace q180 := eq_true q180
                     have p181 : 0 ≤ (x93_3 : Int) := of_decide_eq_true ka
                     have q181 : x93_3 < (x5_1.length : Int) := of_decide_eq_true ka
                     obtain ⟨ad181, e181, hx181_0⟩ := Kd.at_int (Kd.R_reads' HO_5.out).2.2 x93_3 p181 q181
                     obtain rfl : ad180 = ad181 := (by injection e181)
                     replace p181 := eq_true p181
                     replace q181 := eq_true q181
                     go_wp2
                     go_ret2
                     exact ⟨by first | rfl | (simp [errW_none, errW_some] <;> rfl) | (simp [*, errW_none, errW_some] <;> rfl), kB1 HB GE149⟩
                   ·rw [if_neg c95] at H
                    have c95b0 : decide (0 < x93_3) = false := decide_eq_false c95
                    clear c95
                    by_cases c105 : x93_3 < (x8_2.length : Int)
                    ·rw [if_pos c105] at H
                     have c105b0 : decide (x93_3 < (x8_2.length : Int)) = true := decide_eq_true c105
                     clear c105
                     obtain ⟨bq106, hbq106⟩ : ∃ b_ : Bool, b_ = (rdOf false x8_2 x93_3) := ⟨_, rfl⟩
                     replace H : (if bq106 = true then (thicketref07_Shape.l2 k3 x5_1 x8_2 (l0_1.length : Int) (wrap64 (x93_3 + 1))) else (some (70, x93_3))) = some (r1, r2) := by rw [← hbq106] at H; exact H
                     have Nbq106 := Aside0.mk hbq106
                     clear hbq106
                     by_cases c107 : bq106 = true
                     ·subst c107
                      have H1 : (thicketref07_Shape.l2 k3 x5_1 x8_2 (l0_1.length : Int) (wrap64 (x93_3 + 1))) = some (r1, r2) := by rw [if_pos rfl] at H; exact H
                      clear H
                      have H := H1
                      clear H1
                      have H' := Aside0.mk H
                      clear H
                      obtain ⟨Ao108, co108, eo108⟩ := Kd.R_slice HO_5.out
                      subst eo108
                      have p180 : 0 ≤ (x93_3 : Int) := of_decide_eq_true ka
                      have q180 : x93_3 < (x5_1.length : Int) := of_decide_eq_true ka
                      obtain ⟨ad180, e180, hx180_0⟩ := Kd.at_int (Kd.R_reads' HO_5.out).2.2 x93_3 p180 q180
                      cases e180
                      replace p180 := eq_true p180
                      replace q180 := eq_true q180
                      obtain ⟨Ao109, co109, eo109⟩ := Kd.R_slice HO_8.out
                      subst eo109
                      have p183 : 0 ≤ (x93_3 : Int) := of_decide_eq_true ka
                      have q183 : x93_3 < (x8_2.length : Int) := of_decide_eq_true ka
                      obtain ⟨ad183, e183, hx183_0⟩ := Kd.at_bool (Kd.R_reads' HO_8.out).2.2 x93_3 p183 q183
                      (try rw [← Nbq106.out] at hx183_0)
                      cases e183
                      replace p183 := eq_true p183
                      replace q183 := eq_true q183
                      go_wp2
                      go_roundg k3
                      case measure => have := HK1.out; have := HK2.out; have := HK3.out; omega
                      case rel => exact ⟨(wrap64 (x93_3 + 1)), kr, H', ⟨by have := HK1.out; have := HK2.out; have := HK3.out; omega⟩, ⟨kR HO_5⟩, ⟨kR HO_8⟩, ⟨kb BK149⟩, ⟨kB1 HB GE149⟩⟩
                     ·replace c107 := Bool.eq_false_iff.mpr c107
                      subst c107
                      have H1 : (some (70, x93_3)) = some (r1, r2) := by rw [if_neg (show ¬ (false = true) by decide)] at H; exact H
                      clear H
                      have H := H1
                      clear H1
                      simp only [Option.some.injEq, Prod.mk.injEq] at H
                      obtain ⟨rfl, rfl⟩ := H
                      obtain ⟨Ao110, co110, eo110⟩ := Kd.R_slice HO_5.out
                      subst eo110
                      have p180 : 0 ≤ (x93_3 : Int) := of_decide_eq_true ka
                      have q180 : x93_3 < (x5_1.length : Int) := of_decide_eq_true ka
                      obtain ⟨ad180, e180, hx180_0⟩ := Kd.at_int (Kd.R_reads' HO_5.out).2.2 x93_3 p180 q180
                      cases e180
                      replace p180 := eq_true p180
                      replace q180 := eq_true q180
                      obtain ⟨Ao111, co111, eo111⟩ := Kd.R_slice HO_8.out
                      subst eo111
                      have p183 : 0 ≤ (x93_3 : Int) := of_decide_eq_true ka
                      have q183 : x93_3 < (x8_2.length : Int) := of_decide_eq_true ka
                      obtain ⟨ad183, e183, hx183_0⟩ := Kd.at_bool (Kd.R_reads' HO_8.out).2.2 x93_3 p183 q183
                      (try rw [← Nbq106.out] at hx183_0)
                      cases e183
                      replace p183 := eq_true p183
                      replace q183 := eq_true q183
                      go_wp2
                      go_ret2
                      exact ⟨by first | rfl | (simp [errW_none, errW_some] <;> rfl) | (simp [*, errW_none, errW_some] <;> rfl), kB1 HB GE149⟩
                    ·rw [if_neg c105] at H
                     exact absurd H (by simp)
                  ·rw [if_neg c94] at H
                   have c94b0 : ((rd x5_1 x93_3) == 0) = false := beq_eq_false_iff_ne.mpr c94
                   have c94b1 : ((rd x5_1 x93_3) != 0) = true := bne_iff_ne.mpr c94
                   simp only [Option.some.injEq, Prod.mk.injEq] at H
                   obtain ⟨rfl, rfl⟩ := H
                   obtain ⟨Ao112, co112, eo112⟩ := Kd.R_slice HO_5.out
                   subst eo112
                   have p180 : 0 ≤ (x93_3 : Int) := of_decide_eq_true ka
                   have q180 : x93_3 < (x5_1.length : Int) := of_decide_eq_true ka
                   obtain ⟨ad180, e180, hx180_0⟩ := Kd.at_int (Kd.R_reads' HO_5.out).2.2 x93_3 p180 q180
                   cases e180
                   replace p180 := eq_true p180
                   replace q180 := eq_true q180
                   go_wp2
                   go_ret2
                   exact ⟨by first | rfl | (simp [errW_none, errW_some] <;> rfl) | (simp [*, errW_none, errW_some] <;> rfl), kB1 HB GE149⟩
                 ·rw [if_neg c93] at H
                  exact absurd H (by simp)
                ·rw [if_neg c92] at H
                 exact absurd H (by simp)
               ·rw [if_neg c91] at H
                have c91b0 : (x93_3 == 0) = false := beq_eq_false_iff_ne.mpr c91
                have c91b1 : (x93_3 != 0) = true := bne_iff_ne.mpr c91
                by_cases c113 : x93_3 > 0
                ·rw [if_pos c113] at H
                 have c113b0 : decide (0 < x93_3) = true := decide_eq_true c113
                 clear c113
                 by_cases c114 : 0 ≤ x93_3
                 ·rw [if_pos c114] at H
                  have c114b0 : decide (0 ≤ x93_3) = true := decide_eq_true c114
                  clear c114
                  by_cases c115 : x93_3 < (x5_1.length : Int)
                  ·rw [if_pos c115] at H
                   have c115b0 : decide (x93_3 < (x5_1.length : Int)) = true := decide_eq_true c115
                   clear c115
                   by_cases c116 : (rd x5_1 x93_3) = 1
                   ·rw [if_pos c116] at H
                    have c116b0 : ((rd x5_1 x93_3) == 1) = true := beq_iff_eq.mpr c116
                    have c116b1 : ((rd x5_1 x93_3) != 1) = false := bne_eq_false_iff_eq.mpr c116
                    clear c116
                    by_cases c117 : x93_3 < (x8_2.length : Int)
                    ·rw [if_pos c117] at H
                     have c117b0 : decide (x93_3 < (x8_2.length : Int)) = true := decide_eq_true c117
                     clear c117
                     obtain ⟨bq118, hbq118⟩ : ∃ b_ : Bool, b_ = (rdOf false x8_2 x93_3) := ⟨_, rfl⟩
                     replace H : (if bq118 = true then (thicketref07_Shape.l2 k3 x5_1 x8_2 (l0_1.length : Int) (wrap64 (x93_3 + 1))) else (some (70, x93_3))) = some (r1, r2) := by rw [← hbq118] at H; exact H
                     have Nbq118 := Aside0.mk hbq118
                     clear hbq118
                     by_cases c119 : bq118 = true
                     ·subst c119
                      have H1 : (thicketref07_Shape.l2 k3 x5_1 x8_2 (l0_1.length : Int) (wrap64 (x93_3 + 1))) = some (r1, r2) := by rw [if_pos rfl] at H; exact H
                      clear H
                      have H := H1
                      clear H1
                      have H' := Aside0.mk H
                      clear H
                      obtain ⟨Ao120, co120, eo120⟩ := Kd.R_slice HO_5.out
                      subst eo120
                      have p184 : 0 ≤ (x93_3 : Int) := of_decide_eq_true ka
                      have q184 : x93_3 < (x5_1.length : Int) := of_decide_eq_true ka
                      obtain ⟨ad184, e184, hx184_0⟩ := Kd.at_int (Kd.R_reads' HO_5.out).2.2 x93_3 p184 q184
                      cases e184
                      replace p184 := eq_true p184
                      replace q184 := eq_true q184
                      obtain ⟨Ao121, co121, eo121⟩ := Kd.R_slice HO_8.out
                      subst eo121
                      have p185 : 0 ≤ (x93_3 : Int) := of_decide_eq_true ka
                      have q185 : x93_3 < (x8_2.length : Int) := of_decide_eq_true ka
                      obtain ⟨ad185, e185, hx185_0⟩ := Kd.at_bool (Kd.R_reads' HO_8.out).2.2 x93_3 p185 q185
                      (try rw [← Nbq118.out] at hx185_0)
                      cases e185
                      replace p185 := eq_true p185
                      replace q185 := eq_true q185
                      go_wp2
                      go_roundg k3
                      case measure => have := HK1.out; have := HK2.out; have := HK3.out; omega
                      case rel => exact ⟨(wrap64 (x93_3 + 1)), kr, H', ⟨by have := HK1.out; have := HK2.out; have := HK3.out; omega⟩, ⟨kR HO_5⟩, ⟨kR HO_8⟩, ⟨kb BK149⟩, ⟨kB1 HB GE149⟩⟩
                     ·replace c119 := Bool.eq_false_iff.mpr c119
                      subst c119
                      have H1 : (some (70, x93_3)) = some (r1, r2) := by rw [if_neg (show ¬ (false = true) by decide)] at H; exact H
                      clear H
                      have H := H1
                      clear H1
                      simp only [Option.some.injEq, Prod.mk.injEq] at H
                      obtain ⟨rfl, rfl⟩ := H
                      obtain ⟨Ao122, co122, eo122⟩ := Kd.R_slice HO_5.out
                      subst eo122
                      have p184 : 0 ≤ (x93_3 : Int) := of_decide_eq_true ka
                      have q184 : x93_3 < (x5_1.length : Int) := of_decide_eq_true ka
                      obtain ⟨ad184, e184, hx184_0⟩ := Kd.at_int (Kd.R_reads' HO_5.out).2.2 x93_3 p184 q184
                      cases e184
                      replace p184 := eq_true p184
                      replace q184 := eq_true q184
                      obtain ⟨Ao123, co123, eo123⟩ := Kd.R_slice HO_8.out
                      subst eo123
                      have p185 : 0 ≤ (x93_3 : Int) := of_decide_eq_true ka
                      have q185 : x93_3 < (x8_2.length : Int) := of_decide_eq_true ka
                      obtain ⟨ad185, e185, hx185_0⟩ := Kd.at_bool (Kd.R_reads' HO_8.out).2.2 x93_3 p185 q185
                      (try rw [← Nbq118.out] at hx185_0)
                      cases e185
                      replace p185 := eq_true p185
                      replace q185 := eq_true q185
                      go_wp2
                      go_ret2
                      exact ⟨by first | rfl | (simp [errW_none, errW_some] <;> rfl) | (simp [*, errW_none, errW_some] <;> rfl), kB1 HB GE149⟩
                    ·rw [if_neg c117] at H
                     exact absurd H (by simp)
                   ·rw [if_neg c116] at H
                    have c116b0 : ((rd x5_1 x93_3) == 1) = false := beq_eq_false_iff_ne.mpr c116
                    have c116b1 : ((rd x5_1 x93_3) != 1) = true := bne_iff_ne.mpr c116
                    simp only [Option.some.injEq, Prod.mk.injEq] at H
                    obtain ⟨rfl, rfl⟩ := H
                    obtain ⟨Ao124, co124, eo124⟩ := Kd.R_slice HO_5.out
                    subst eo124
                    have p184 : 0 ≤ (x93_3 : Int) := of_decide_eq_true ka
                    have q184 : x93_3 < (x5_1.length : Int) := of_decide_eq_true ka
                    obtain ⟨ad184, e184, hx184_0⟩ := Kd.at_int (Kd.R_reads' HO_5.out).2.2 x93_3 p184 q184
                    cases e184
                    replace p184 := eq_true p184
                    replace q184 := eq_true q184
                    go_wp2
                    go_ret2
                    exact ⟨by first | rfl | (simp [errW_none, errW_some] <;> rfl) | (simp [*, errW_none, errW_some] <;> rfl), kB1 HB GE149⟩
                  ·rw [if_neg c115] at H
                   exact absurd H (by simp)
                 ·rw [if_neg c114] at H
                  exact absurd H (by simp)
                ·rw [if_neg c113] at H
                 have c113b0 : decide (0 < x93_3) = false := decide_eq_false c113
                 clear c113
                 by_cases c125 : 0 ≤ x93_3
                 ·rw [if_pos c125] at H
                  have c125b0 : decide (0 ≤ x93_3) = true := decide_eq_true c125
                  clear c125
                  by_cases c126 : x93_3 < (x8_2.length : Int)
                  ·rw [if_pos c126] at H
                   have c126b0 : decide (x93_3 < (x8_2.length : Int)) = true := decide_eq_true c126
                   clear c126
                   obtain ⟨bq127, hbq127⟩ : ∃ b_ : Bool, b_ = (rdOf false x8_2 x93_3) := ⟨_, rfl⟩
                   replace H : (if bq127 = true then (thicketref07_Shape.l2 k3 x5_1 x8_2 (l0_1.length : Int) (wrap64 (x93_3 + 1))) else (some (70, x93_3))) = some (r1, r2) := by rw [← hbq127] at H; exact H
                   have Nbq127 := Aside0.mk hbq127
                   clear hbq127
                   by_cases c128 : bq127 = true
                   ·subst c128
                    have H1 : (thicketref07_Shape.l2 k3 x5_1 x8_2 (l0_1.length : Int) (wrap64 (x93_3 + 1))) = some (r1, r2) := by rw [if_pos rfl] at H; exact H
                    clear H
                    have H := H1
                    clear H1
                    have H' := Aside0.mk H
                    clear H
                    obtain ⟨Ao129, co129, eo129⟩ := Kd.R_slice HO_8.out
                    subst eo129
                    have p186 : 0 ≤ (x93_3 : Int) := of_decide_eq_true ka
                    have q186 : x93_3 < (x8_2.length : Int) := of_decide_eq_true ka
                    obtain ⟨ad186, e186, hx186_0⟩ := Kd.at_bool (Kd.R_reads' HO_8.out).2.2 x93_3 p186 q186
                    (try rw [← Nbq127.out] at hx186_0)
                    cases e186
                    replace p186 := eq_true p186
                    replace q186 := eq_true q186
                    go_wp2
                    go_roundg k3
                    case measure => have := HK1.out; have := HK2.out; have := HK3.out; omega
                    case rel => exact ⟨(wrap64 (x93_3 + 1)), kr, H', ⟨by have := HK1.out; have := HK2.out; have := HK3.out; omega⟩, ⟨kR HO_5⟩, ⟨kR HO_8⟩, ⟨kb BK149⟩, ⟨kB1 HB GE149⟩⟩
                   ·replace c128 := Bool.eq_false_iff.mpr c128
                    subst c128
                    have H1 : (some (70, x93_3)) = some (r1, r2) := by rw [if_neg (show ¬ (false = true) by decide)] at H; exact H
                    clear H
                    have H := H1
                    clear H1
                    simp only [Option.some.injEq, Prod.mk.injEq] at H
                    obtain ⟨rfl, rfl⟩ := H
                    obtain ⟨Ao130, co130, eo130⟩ := Kd.R_slice HO_8.out
                    subst eo130
                    have p186 : 0 ≤ (x93_3 : Int) := of_decide_eq_true ka
                    have q186 : x93_3 < (x8_2.length : Int) := of_decide_eq_true ka
                    obtain ⟨ad186, e186, hx186_0⟩ := Kd.at_bool (Kd.R_reads' HO_8.out).2.2 x93_3 p186 q186
                    (try rw [← Nbq127.out] at hx186_0)
                    cases e186
                    replace p186 := eq_true p186
                    replace q186 := eq_true q186
                    go_wp2
                    go_ret2
                    exact ⟨by first | rfl | (simp [errW_none, errW_some] <;> rfl) | (simp [*, errW_none, errW_some] <;> rfl), kB1 HB GE149⟩
                  ·rw [if_neg c126] at H
                   exact absurd H (by simp)
                 ·rw [if_neg c125] at H
                  exact absurd H (by simp)
              ·rw [if_neg c90] at H
               have c90b0 : decide (x93_3 < (l0_1.length : Int)) = false := decide_eq_false c90
               clear c90
               simp only [Option.some.injEq, Prod.mk.injEq] at H
               obtain ⟨rfl, rfl⟩ := H
               go_wp2
               go_ret2
               exact ⟨by first | rfl | (simp [errW_none, errW_some] <;> rfl) | (simp [*, errW_none, errW_some] <;> rfl), kB1 HB GE149⟩
        ·rw [if_neg c45] at H
         exact absurd H (by simp)
       ·rw [if_neg c44] at H
        exact absurd H (by simp)
   ·rw [if_neg c6] at H
    exact absurd H (by simp)
  ·rw [if_neg c5] at H
   exact absurd H (by simp)
end Go.Proofs.YtkemfbocojoagaaDoor.FAll
