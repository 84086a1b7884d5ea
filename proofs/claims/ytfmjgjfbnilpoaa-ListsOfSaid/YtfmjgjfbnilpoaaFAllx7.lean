-- written by fprint.sh, a program of ours over the kit's print: not by hand
import Derived.Test.YtfmjgjfbnilpoaaZq
import Derived.Test.YtfmjgjfbnilpoaaEi
import Derived.Test.YtfmjgjfbnilpoaaFAllx0
import Derived.Test.YtfmjgjfbnilpoaaFAllx3
import Derived.Test.YtfmjgjfbnilpoaaFAllx5
import Derived.Test.YtfmjgjfbnilpoaaFAllx6
namespace Go.Proofs.Ytfmjgjfbnilpoaa.FAll
open Go.RowKit YtfmjgjfbnilpoaaW.PrintWords YtfmjgjfbnilpoaaW.PrintLast YtfmjgjfbnilpoaaW.PrintMore
attribute [local go_sem] feq_walk fne_walk flt_walk fle_walk fgt_walk fge_walk fint_walk fstore_walk run_f64bits run_f64from max2_int min2_int max_two min_two max_three min_three max_four min_four   -- for this text's walks alone
set_option linter.unusedVariables false
set_option linter.unusedSimpArgs false
/-! ### thicketref13_Marks: function 31 -/
def thicketref13_Marks.l0 : Nat → List Int → List (S58) → List Int → Int → Int → Int → List (S71) → Option ((List (S58)) × Int)
 | 0, _, _, _, _, _, _, _ => none
 | k + 1, x6, x7, x25, x26, x27, x287000, x287001 => if x27 < x26 then (if 0 ≤ x27 then (if x27 < (x25.length : Int) then (if 0 ≤ (rd x25 x27) then (if (rd x25 x27) < (x287001.length : Int) then (if ((rd_T71 x287001 (rd x25 x27)).f0) = 1 then (thicketref13_Marks.l0 k x6 x7 x25 x26 (wrap64 (x27 + 1)) x287000 x287001) else ((thicketref13_below.f k x287000 x287001 ((rd_T71 x287001 (rd x25 x27)).f6)).bind fun t298 => (if (rd x25 x27) < (x6.length : Int) then (if x7.length < 5864062014805 then (if 0 ≤ ((rd_T71 x287001 (rd x25 x27)).f6) then (if ((rd_T71 x287001 (rd x25 x27)).f6) < (x6.length : Int) then ((some (x6.set (((rd_T71 x287001 (rd x25 x27)).f6) : Int).toNat (rd x6 (rd x25 x27)) : List Int)).bind fun y305 => (if 0 ≤ ((rd_T71 x287001 (rd x25 x27)).f7) then (if ((rd_T71 x287001 (rd x25 x27)).f7) < (x6.length : Int) then (thicketref13_Marks.l0 k (y305.set (((rd_T71 x287001 (rd x25 x27)).f7) : Int).toNat (wrap64 ((rd y305 (rd x25 x27)) + t298))) (x7 ++ [(⟨rd x25 x27, rd x6 (rd x25 x27), wrap64 ((rd x6 (rd x25 x27)) + t298)⟩ : S58)]) x25 x26 (wrap64 (x27 + 1)) x287000 x287001) else (none)) else (none))) else (none)) else (none)) else (none)) else (none)))) else (none)) else (none)) else (none)) else (none)) else (some (x7, 0))
def thicketref13_Marks.f (k : Nat) (a0_0 : Int) (l0_1 : List (S71)) : Option ((List (S58)) × Int) := (thicketref13_Count.f k a0_0 l0_1).bind fun bt287 => (if bt287.2 = 0 then (if 0 ≤ (l0_1.length : Int) then (if ((l0_1.length : Int) : Int).toNat ≤ 35184372088832 then ((thicketref07_Order.f k a0_0 l0_1).bind fun t292 => (thicketref13_Marks.l0 k (List.replicate ((l0_1.length : Int) : Int).toNat 0) ([] : List (S58)) t292 (t292.length : Int) 0 a0_0 l0_1)) else (none)) else (none)) else (some (([] : List (S58)), bt287.2)))
theorem thicketref13_Marks.mono_l : ∀ k, (∀ y0 y1 y2 y3 y4 y5 y6, LeO (thicketref13_Marks.l0 k y0 y1 y2 y3 y4 y5 y6) (thicketref13_Marks.l0 (k + 1) y0 y1 y2 y3 y4 y5 y6))
 | 0 => fun _ _ _ _ _ _ _ r h => by simp [thicketref13_Marks.l0] at h
 | k + 1 => by
  have ih0 := thicketref13_Marks.mono_l k
  ·intro y0 y1 y2 y3 y4 y5 y6
   unfold thicketref13_Marks.l0
   repeat' first
   | (with_reducible exact ih0 _ _ _ _ _ _ _)
   | (with_reducible exact thicketref07_Order.mono _ _ _)
   | (with_reducible exact thicketref13_Count.mono _ _ _)
   | (with_reducible exact thicketref13_below.mono _ _ _ _)
   | (with_reducible exact LeO.refl _)
   | (with_reducible exact LeO.none _)
   | (with_reducible refine LeO.ite ?_ ?_)
   | (with_reducible refine LeO.bind ?_ (fun _ => ?_))
theorem thicketref13_Marks.mono : ∀ a0 a1 k, LeO (thicketref13_Marks.f k a0 a1) (thicketref13_Marks.f (k + 1) a0 a1) := by
 intro a0 a1 k
 have ih0 := thicketref13_Marks.mono_l k
 unfold thicketref13_Marks.f
 repeat' first
   | (with_reducible exact ih0 _ _ _ _ _ _ _)
   | (with_reducible exact thicketref07_Order.mono _ _ _)
   | (with_reducible exact thicketref13_Count.mono _ _ _)
   | (with_reducible exact thicketref13_below.mono _ _ _ _)
   | (with_reducible exact LeO.refl _)
   | (with_reducible exact LeO.none _)
   | (with_reducible refine LeO.ite ?_ ?_)
   | (with_reducible refine LeO.bind ?_ (fun _ => ?_))
def thicketref13_Marks.T12 : Bool × List (List Nat × List Nat) := (true, [([], []), ([], []), ([], []), ([], []), ([2, 3], [2, 3]), ([4], [4]), ([], []), ([], []), ([6, 7], [6, 7]), ([8], [8]), ([], []), ([9, 10], [9, 10]), ([1, 5, 11], [1, 5, 11]), ([12], [12]), ([0, 13], [0, 13]), ([14, 14, 0, 1, 2, 3, 4, 5, 6, 7, 8, 9, 10, 11, 12, 13, 14], [0, 14])])
def thicketref13_Marks.B12 : List Nat := [0, 0, 0, 0, 12, 28, 0, 0, 192, 448, 0, 1984, 4094, 8190, 16383, 32767]
theorem thicketref13_Marks.tab12 : rtab .any (opsOf Try.f31 12) = thicketref13_Marks.T12 := by kernel_rfl
theorem thicketref13_Marks.bits12 : waitsOk thicketref13_Marks.T12.2 thicketref13_Marks.B12 = true := by kernel_rfl
def thicketref13_Marks.T13 : Bool × List (List Nat × List Nat) := (true, [([], []), ([], []), ([1], [1]), ([], []), ([], []), ([3, 4], [3, 4]), ([5], [5]), ([0, 2, 0, 1, 2, 3, 4, 5, 6], [0, 2]), ([7, 6, 0, 1, 2, 3, 4, 5, 6], [6, 7])])
def thicketref13_Marks.B13 : List Nat := [0, 0, 2, 0, 0, 24, 56, 127, 255]
theorem thicketref13_Marks.tab13 : rtab .any (opsOf Try.f31 13) = thicketref13_Marks.T13 := by kernel_rfl
theorem thicketref13_Marks.bits13 : waitsOk thicketref13_Marks.T13.2 thicketref13_Marks.B13 = true := by kernel_rfl
def thicketref13_Marks.T14 : Bool × List (List Nat × List Nat) := (true, [([], []), ([], []), ([1], [1]), ([], []), ([], []), ([3, 4], [3, 4]), ([5], [5]), ([], []), ([6, 7], [6, 7]), ([0, 2, 0, 1, 2, 3, 4, 5, 6, 7, 8], [0, 2]), ([9, 8, 0, 1, 2, 3, 4, 5, 6, 7, 8], [8, 9])])
def thicketref13_Marks.B14 : List Nat := [0, 0, 2, 0, 0, 24, 56, 0, 248, 511, 1023]
theorem thicketref13_Marks.tab14 : rtab .any (opsOf Try.f31 14) = thicketref13_Marks.T14 := by kernel_rfl
theorem thicketref13_Marks.bits14 : waitsOk thicketref13_Marks.T14.2 thicketref13_Marks.B14 = true := by kernel_rfl
set_option maxHeartbeats 8000000 in
set_option maxRecDepth 100000 in
theorem thicketref13_Marks.calls (k : Nat) (a0_0 : Int) (A0_1 : Option Addr) (c0_1 : Nat) (l0_1 : List (S71)) (r1 : List (S58)) (r2 : Int) (w : World) (hr0_1 : Kd.C k71 w A0_1 l0_1.length l0_1) (hc0_1 : l0_1.length ≤ c0_1) (h : thicketref13_Marks.f k a0_0 l0_1 = some (r1, r2)) :
  Calls Try.prog 31 #[.agg #[.int .i64 a0_0, .slice A0_1 l0_1.length c0_1]] w fun e w' => ∃ v0_ : Value, e = .returned (.tuple #[v0_, .int .i64 r2]) ∧ Kd.R k58 58 w' w.heap.size (fun _ => True) v0_ r1 ∧ Below w.heap.size w w' := by
 have hu53 := Try.underlying53
 have hu71 := Try.underlying71
 have hu58 := Try.underlying58
 have HR0_1 := aS_ hr0_1
 have HC0_1 := aS_ hc0_1
 clear hr0_1 hc0_1
 have HB := aS_ (Below.refl w.heap.size w)
 have H : ((thicketref13_Count.f k a0_0 l0_1).bind fun bt287 => (if bt287.2 = 0 then (if 0 ≤ (l0_1.length : Int) then (if ((l0_1.length : Int) : Int).toNat ≤ 35184372088832 then ((thicketref07_Order.f k a0_0 l0_1).bind fun t292 => (thicketref13_Marks.l0 k (List.replicate ((l0_1.length : Int) : Int).toNat 0) ([] : List (S58)) t292 (t292.length : Int) 0 a0_0 l0_1)) else (none)) else (none)) else (some (([] : List (S58)), bt287.2)))) = some (r1, r2) := h
 clear h
 replace H := Option.bind_eq_some_iff.mp H
 obtain ⟨⟨t287, t288⟩, A20, H⟩ := H
 replace H : (if t288 = 0 then (if 0 ≤ (l0_1.length : Int) then (if ((l0_1.length : Int) : Int).toNat ≤ 35184372088832 then ((thicketref07_Order.f k a0_0 l0_1).bind fun t292 => (thicketref13_Marks.l0 k (List.replicate ((l0_1.length : Int) : Int).toNat 0) ([] : List (S58)) t292 (t292.length : Int) 0 a0_0 l0_1)) else (none)) else (none)) else (some (([] : List (S58)), t288))) = some (r1, r2) := H
 have A2 := aS_ A20
 clear A20
 by_cases c3 : t288 = 0
 ·rw [if_pos c3] at H
  have c3b0 := beq_iff_eq.mpr c3
  have c3b1 := bne_eq_false_iff_eq.mpr c3
  clear c3
  by_cases c4 : 0 ≤ (l0_1.length : Int)
  ·rw [if_pos c4] at H
   have c4b0 := eq_true c4
   have c4b1 := decide_eq_true c4
   clear c4
   by_cases c5 : ((l0_1.length : Int) : Int).toNat ≤ 35184372088832
   ·rw [if_pos c5] at H
    have c5b0 := eq_true c5
    have c5b1 := decide_eq_true c5
    clear c5
    obtain ⟨y289, hy289⟩ : ∃ y_ : List Int, y_ = (List.replicate ((l0_1.length : Int) : Int).toNat 0) := ⟨_, rfl⟩
    (try replace H := bS_ H); rw [← hy289] at H; try dsimp only at H
    have Ny289 := aS_ hy289
    clear hy289
    replace H := Option.bind_eq_some_iff.mp H
    obtain ⟨t292, A60, H⟩ := H
    replace H : (thicketref13_Marks.l0 k y289 ([] : List (S58)) t292 (t292.length : Int) 0 a0_0 l0_1) = some (r1, r2) := H
    have A6 := aS_ A60
    clear A60
    have H' := aS_ H
    clear H
    go_enter Try.func31, Try.ntmps31
    go_wp2_with (first | ((with_reducible refine gate_dst (N := 1) rfl ?_); refine box_event ?hg (N := 1) ?hd (cs := #[.int .i64 a0_0, .slice A0_1 l0_1.length c0_1]) (t := 53) ?hr ?_; (case hd => rfl); (case hg => rfl); (case hr => first | (go_simp; done) | (go_simp; rfl)); intro gb286 hg w7 hbox hb; have n0_ := aS_ (below_step (kB0 HB) hb); have n1_ := aS_ (hbox); have n2_ := aS_ ((kg hg (kB0 HB) : w.heap.size ≤ gb286)); have n3_ := aS_ ((kg hg (kB0 HB) : w.heap.size ≤ gb286)); clear HB; have HB := n0_; have BK286 := n1_; have GW286 := n2_; have GE286 := n3_; clear n0_ n1_ n2_ n3_; clear hb hbox hg; have hcz8 := blk2 (w := w7) BK286.out) | ((with_reducible refine gate_callee (f := 51) rfl ?_); refine goesL_ (some 14) rfl rfl Try.func51 (by kernel_rfl) rfl #[.agg #[.int .i64 a0_0, .slice A0_1 l0_1.length c0_1]] rfl (by (try simp only [List.map_toArray, List.map_cons, List.map_nil]); first | done | rfl | (simp only [List.length_drop, List.length_take]; rfl)) ?_; (with_reducible refine (thicketref13_Count.calls k a0_0 _ _ l0_1 t287 t288 _ ?side1 ?side2 A2.out).mono ?_); (case side1 => repeat (first | exact (Kd.C_below HR0_1.out HB.out) | (with_reducible refine Kd.C_alloc ?_ _) | (with_reducible refine Kd.C_drewN ?_ _) | (with_reducible refine Kd.C_drew ?_))); (case side2 => exact HC0_1.out); rintro e w9 ⟨rfl, hb⟩; refine ⟨_, rfl, ?_⟩; have n0_ := aS_ (blk_below (g := gb286) (o := .cells #[.int .i64 a0_0, .slice A0_1 l0_1.length c0_1] 53 (0, 0)) (kb BK286) hb); have n1_ := aS_ (below_step (kB1 HB GE286) hb); clear BK286; clear HB; have BK286 := n0_; have HB := n1_; clear n0_ n1_; (try clear hb); (try clear hb2); (try clear hk); (try clear hi); have hcz10 := blk2 (w := w9) BK286.out) | ((with_reducible refine gate_dst (N := 23) rfl ?_); refine Kd.R_make (Kd.int .i64) _ 3 rfl (N := 23) rfl 54 _ _ rfl (l0_1.length : Int) rfl rfl Try.underlying54 (.int .i64 0) 8 info3 rfl (by decide) (by omega) 0 (ok := fun _ => True) (okp := fun _ => True) rfl (fun _ hk => hk) trivial (of_decide_eq_true ka) (Nat.le_trans (Nat.mul_le_mul_right _ (of_decide_eq_true ka : (l0_1.length : Int).toNat ≤ 35184372088832)) (by omega)) (Below.refl _ _) (Nat.le_refl _) ?_; intro v290 w11 ho12 hb hg_ hnew_; clear hg_ hnew_; (first | rw [← Ny289.out] at ho12 | (simp only [Int.reduceToNat] at ho12; rw [← Ny289.out] at ho12)); have n0_ := aS_ (Kd.R_lower ho12 (below_size (kB1 HB GE286))); have n1_ := aS_ (blk_below (g := gb286) (o := .cells #[.int .i64 a0_0, .slice A0_1 l0_1.length c0_1] 53 (0, 0)) (kb BK286) hb); have n2_ := aS_ (below_step (kB1 HB GE286) hb); clear BK286; clear HB; have HO291 := n0_; have BK286 := n1_; have HB := n2_; clear n0_ n1_ n2_; clear hb ho12; have hcz13 := blk2 (w := w11) BK286.out) | ((with_reducible refine gate_callee (f := 53) rfl ?_); refine goesL_ (some 25) rfl rfl Try.func53 (by kernel_rfl) rfl #[.agg #[.int .i64 a0_0, .slice A0_1 l0_1.length c0_1]] rfl (by (try simp only [List.map_toArray, List.map_cons, List.map_nil]); first | done | rfl | (simp only [List.length_drop, List.length_take]; rfl)) ?_; (with_reducible refine (thicketref07_Order.calls k a0_0 _ _ l0_1 t292 _ ?side1 ?side2 A6.out).mono ?_); (case side1 => repeat (first | exact (Kd.C_below HR0_1.out HB.out) | (with_reducible refine Kd.C_alloc ?_ _) | (with_reducible refine Kd.C_drewN ?_ _) | (with_reducible refine Kd.C_drew ?_))); (case side2 => exact HC0_1.out); rintro e w14 ⟨v293, rfl, ho0, hb⟩; refine ⟨_, rfl, ?_⟩; have n0_ := aS_ (Kd.R_elder' (kR HO291) (Kd.R_base ho0) hb); have n1_ := aS_ (Kd.R_lower (Kd.R_new' ho0 (Kd.R_lt (kR HO291))) (below_size (kB1 HB GE286))); have n2_ := aS_ (blk_below (g := gb286) (o := .cells #[.int .i64 a0_0, .slice A0_1 l0_1.length c0_1] 53 (0, 0)) (kb BK286) hb); have n3_ := aS_ (below_step (kB1 HB GE286) hb); clear HO291; clear BK286; clear HB; have HO291 := n0_; have HO294 := n1_; have BK286 := n2_; have HB := n3_; clear n0_ n1_ n2_ n3_; (try clear hb); (try clear hb2); (try clear hk); (try clear hi); (try clear ho0); obtain ⟨Ao15, co15, eo15⟩ := Kd.R_slice HO294.out; subst eo15))
    go_loopg [7, 27] k (fun kq v7 v27 w' => ∃ (x6_1 : List Int) (x7_1 : List (S58)) (x27_1 : Int), v27 = .int .i64 x27_1 ∧ Aside0 (thicketref13_Marks.l0 kq x6_1 x7_1 t292 (t292.length : Int) x27_1 a0_0 l0_1 = some (r1, r2)) ∧ Aside0 (kq ≤ k) ∧ Aside0 (Kd.R (Kd.int .i64) 3 w' w.heap.size (fun k_ => some k_ ≠ ((.slice Ao15 t292.length co15) : Value).ownBlock) v290 x6_1) ∧ Aside0 (Kd.R k58 58 w' w.heap.size (fun _ => True) v7 x7_1) ∧ Aside0 (Kd.R (Kd.int .i64) 3 w' w.heap.size (fun k_ => some k_ ≠ (v290 : Value).ownBlock) (.slice Ao15 t292.length co15) t292) ∧ Aside0 (w'.heap[gb286]? = some (.cells #[.int .i64 a0_0, (.slice A0_1 l0_1.length c0_1)] 53 (0, 0))) ∧ Aside0 (Below w.heap.size w w'))
    case atStart => exact ⟨(y289), (([] : List (S58))), (0), kr, H', ⟨Nat.le_refl _⟩, ⟨by (with_reducible repeat (first | apply Kd.R_alloc | apply Kd.R_drewN | apply Kd.R_drew)); exact Kd.R_mono HO291.out (fun _ hk => hk.2)⟩, ⟨by first | exact Kd.R_nil _ _ _ _ _ | exact Kd.N_nil _ _ _ _ _ | exact Kd.V_nil _ _ _ _ _ | exact Kd.Q_nil _ _ _ _ _ | exact Kd.S_nil _ _ _ _ _⟩, ⟨by (with_reducible repeat (first | apply Kd.R_alloc | apply Kd.R_drewN | apply Kd.R_drew)); exact Kd.R_mono HO294.out (fun _ hk => hk.2)⟩, ⟨kb BK286⟩, ⟨kB1 HB GE286⟩⟩
    case round =>
     clear H'
     try clear p2; try clear c3; try clear c3b0; try clear c3b1; try clear c4; try clear c4b0; try clear c4b1; try clear c5; try clear c5b0; try clear c5b1; try clear hcz10; try clear hcz13; try clear hcz8
     obtain ⟨x6_1, x7_1, x27_1, rfl, HA, HK1, HO_6, HO_7, HO_25, BK286, HB⟩ := hrel
     cases gk with
     | zero => exact absurd HA.out (by simp [thicketref13_Marks.l0])
     | succ k1 =>
      have H := HA.out
      clear HA
      simp only [thicketref13_Marks.l0] at H
      by_cases c16 : x27_1 < (t292.length : Int)
      ·rw [if_pos c16] at H
       have c16b0 := decide_eq_true c16
       clear c16
       by_cases c17 : 0 ≤ x27_1
       ·rw [if_pos c17] at H
        have c17b0 := decide_eq_true c17
        clear c17
        by_cases c18 : x27_1 < (t292.length : Int)
        ·rw [if_pos c18] at H
         have c18b0 := decide_eq_true c18
         clear c18
         by_cases c19 : 0 ≤ (rd t292 x27_1)
         ·rw [if_pos c19] at H
          have c19b0 := decide_eq_true c19
          clear c19
          by_cases c20 : (rd t292 x27_1) < (l0_1.length : Int)
          ·rw [if_pos c20] at H
           have c20b0 := decide_eq_true c20
           clear c20
           by_cases c21 : ((rd_T71 l0_1 (rd t292 x27_1)).f0) = 1
           ·rw [if_pos c21] at H
            have c21b0 := beq_iff_eq.mpr c21
            have c21b1 := bne_eq_false_iff_eq.mpr c21
            clear c21
            have H' := aS_ H
            clear H
            have p295 : 0 ≤ (x27_1 : Int) := of_decide_eq_true ka
            have q295 : x27_1 < (t292.length : Int) := of_decide_eq_true ka
            obtain ⟨ad295, e295, hx295_0⟩ := Kd.at_int (Kd.R_reads' HO_25.out).2.2 x27_1 p295 q295
            cases e295
            replace p295 := eq_true p295
            replace q295 := eq_true q295
            have hcz22 := blk2 (w := wr) BK286.out
            have p296 : 0 ≤ ((rd t292 x27_1) : Int) := of_decide_eq_true ka
            have q296 : (rd t292 x27_1) < (l0_1.length : Int) := of_decide_eq_true ka
            obtain ⟨ad296, A296_4, c296_4, e296, hx296_0, hx296_1, hx296_2, hx296_3, hx296_4, hx296_5, hx296_6, hx296_7, hl296_4, hi296_4⟩ := at_T71 HR0_1.out (rd t292 x27_1) p296 q296
            cases e296
            replace hx296_0 := cB_ HB.out hx296_0
            replace hx296_1 := cB_ HB.out hx296_1
            replace hx296_2 := cB_ HB.out hx296_2
            replace hx296_3 := cB_ HB.out hx296_3
            replace hx296_4 := cB_ HB.out hx296_4
            replace hx296_5 := cB_ HB.out hx296_5
            replace hx296_6 := cB_ HB.out hx296_6
            replace hx296_7 := cB_ HB.out hx296_7
            have HR296_4 := aS_ hi296_4
            have HC296_4 := aS_ hl296_4
            clear hi296_4 hl296_4
            replace p296 := eq_true p296
            replace q296 := eq_true q296
            go_wp2_with (first | ((with_reducible refine gate_dst (N := 10) rfl ?_); refine box_event ?hg (N := 10) ?hd (cs := #[.int .u8 0, .int .i64 0, .int .i64 0, .float .f64 0, .slice none 0 0, .int .u8 0, .int .i64 0, .int .i64 0]) (t := 71) ?hr ?_; (case hd => rfl); (case hg => rfl); (case hr => first | (go_simp; done) | (go_simp; rfl)); intro gb297 hg w23 hbox hb; have n0_ := aS_ (Kd.R_below (kR HO_6) hb); have n1_ := aS_ (Kd.R_below (kR HO_7) hb); have n2_ := aS_ (Kd.R_below (kR HO_25) hb); have n3_ := aS_ (blk_below (g := gb286) (o := .cells #[.int .i64 a0_0, .slice (some ad296) l0_1.length c0_1] 53 (0, 0)) (kb BK286) hb); have n4_ := aS_ (below_step (kB1 HB GE286) hb); have n5_ := aS_ (hbox); have n6_ := aS_ ((kg hg (kB1 HB GE286) : w.heap.size ≤ gb297)); have n7_ := aS_ ((kg hg (kB1 HB GE286) : w.heap.size ≤ gb297)); have n8_ := aS_ ((by rw [hg]; exact Nat.ne_of_lt (blk_lt (g := gb286) (o := .cells #[.int .i64 a0_0, .slice (some ad296) l0_1.length c0_1] 53 (0, 0)) (kb BK286)) : gb286 ≠ gb297)); have n9_ := aS_ ((by rw [hg]; exact Nat.ne_of_gt (blk_lt (g := gb286) (o := .cells #[.int .i64 a0_0, .slice (some ad296) l0_1.length c0_1] 53 (0, 0)) (kb BK286)) : gb297 ≠ gb286)); clear HO_6; clear HO_7; clear HO_25; clear BK286; clear HB; have HO_6 := n0_; have HO_7 := n1_; have HO_25 := n2_; have BK286 := n3_; have HB := n4_; have BK297 := n5_; have GW297 := n6_; have GE297 := n7_; have NB286_297 := n8_; have NB297_286 := n9_; clear n0_ n1_ n2_ n3_ n4_ n5_ n6_ n7_ n8_ n9_; clear hb hbox hg; have hnb24 := NB297_286.out; have hnc24 := NB286_297.out; have hcz25 := blk8 (w := w23) BK297.out))
            go_roundg k1
            case measure => have := HK1.out; omega
            case rel => exact ⟨(x6_1), (x7_1), (wrap64 (x27_1 + 1)), kr, H', ⟨by have := HK1.out; omega⟩, ⟨by (with_reducible repeat (first | apply Kd.R_alloc | apply Kd.R_drewN | apply Kd.R_drew)); exact Kd.R_mono (Kd.R_far8 (Kd.R_types HO_6.out BK297.out (by decide)) (fun _ hk => hk.2) _ _ _ _ _ _ _ _) (fun _ hk => hk.1)⟩, ⟨by (with_reducible repeat (first | apply Kd.R_alloc | apply Kd.R_drewN | apply Kd.R_drew)); exact Kd.R_mono (Kd.R_far8 (Kd.R_types HO_7.out BK297.out (by decide)) (fun _ hk => hk.2) _ _ _ _ _ _ _ _) (fun _ hk => trivial)⟩, ⟨by (with_reducible repeat (first | apply Kd.R_alloc | apply Kd.R_drewN | apply Kd.R_drew)); exact Kd.R_mono (Kd.R_far8 (Kd.R_types HO_25.out BK297.out (by decide)) (fun _ hk => hk.2) _ _ _ _ _ _ _ _) (fun _ hk => hk.1)⟩, ⟨by (with_reducible repeat (first | refine blk_drewN ?_ _ | refine blk_drew ?_ | refine blk_alloc ?_ _)); refine blk_far8 ?_ NB286_297.out _ _ _ _ _ _ _ _; (with_reducible repeat (first | refine blk_drewN ?_ _ | refine blk_drew ?_ | refine blk_alloc ?_ _)); exact BK286.out⟩, ⟨kB2 HB GE286 GE297⟩⟩
           ·rw [if_neg c21] at H
            have c21b0 := beq_eq_false_iff_ne.mpr c21
            have c21b1 := bne_iff_ne.mpr c21
            replace H := Option.bind_eq_some_iff.mp H
            obtain ⟨t298, A260, H⟩ := H
            replace H : (if (rd t292 x27_1) < (x6_1.length : Int) then (if x7_1.length < 5864062014805 then (if 0 ≤ ((rd_T71 l0_1 (rd t292 x27_1)).f6) then (if ((rd_T71 l0_1 (rd t292 x27_1)).f6) < (x6_1.length : Int) then ((some (x6_1.set (((rd_T71 l0_1 (rd t292 x27_1)).f6) : Int).toNat (rd x6_1 (rd t292 x27_1)) : List Int)).bind fun y305 => (if 0 ≤ ((rd_T71 l0_1 (rd t292 x27_1)).f7) then (if ((rd_T71 l0_1 (rd t292 x27_1)).f7) < (x6_1.length : Int) then (thicketref13_Marks.l0 k1 (y305.set (((rd_T71 l0_1 (rd t292 x27_1)).f7) : Int).toNat (wrap64 ((rd y305 (rd t292 x27_1)) + t298))) (x7_1 ++ [(⟨rd t292 x27_1, rd x6_1 (rd t292 x27_1), wrap64 ((rd x6_1 (rd t292 x27_1)) + t298)⟩ : S58)]) t292 (t292.length : Int) (wrap64 (x27_1 + 1)) a0_0 l0_1) else (none)) else (none))) else (none)) else (none)) else (none)) else (none)) = some (r1, r2) := H
            have A26 := aS_ A260
            clear A260
            by_cases c27 : (rd t292 x27_1) < (x6_1.length : Int)
            ·rw [if_pos c27] at H
             have c27b0 := decide_eq_true c27
             clear c27
             by_cases c28 : x7_1.length < 5864062014805
             ·rw [if_pos c28] at H
              have LMc28 := aS_ c28
              clear c28
              obtain ⟨y301, hy301⟩ : ∃ y_ : List (S58), y_ = (x7_1 ++ [(⟨rd t292 x27_1, rd x6_1 (rd t292 x27_1), wrap64 ((rd x6_1 (rd t292 x27_1)) + t298)⟩ : S58)]) := ⟨_, rfl⟩
              replace H : (if 0 ≤ ((rd_T71 l0_1 (rd t292 x27_1)).f6) then (if ((rd_T71 l0_1 (rd t292 x27_1)).f6) < (x6_1.length : Int) then ((some (x6_1.set (((rd_T71 l0_1 (rd t292 x27_1)).f6) : Int).toNat (rd x6_1 (rd t292 x27_1)) : List Int)).bind fun y305 => (if 0 ≤ ((rd_T71 l0_1 (rd t292 x27_1)).f7) then (if ((rd_T71 l0_1 (rd t292 x27_1)).f7) < (x6_1.length : Int) then (thicketref13_Marks.l0 k1 (y305.set (((rd_T71 l0_1 (rd t292 x27_1)).f7) : Int).toNat (wrap64 ((rd y305 (rd t292 x27_1)) + t298))) y301 t292 (t292.length : Int) (wrap64 (x27_1 + 1)) a0_0 l0_1) else (none)) else (none))) else (none)) else (none)) = some (r1, r2) := by first | (rw [hy301]; with_reducible exact H) | (have H2_ := (Option.bind_some _ _).symm.trans H; rw [hy301]; with_reducible exact H2_) | (have H2_ := (Option.bind_some _ _).symm.trans H; with_reducible exact H2_) | with_reducible exact H | (rw [hy301]; exact H) | exact H
              have Ny301 := aS_ hy301
              clear hy301
              by_cases c29 : 0 ≤ ((rd_T71 l0_1 (rd t292 x27_1)).f6)
              ·rw [if_pos c29] at H
               have c29b0 := decide_eq_true c29
               clear c29
               by_cases c30 : ((rd_T71 l0_1 (rd t292 x27_1)).f6) < (x6_1.length : Int)
               ·rw [if_pos c30] at H
                have c30b0 := decide_eq_true c30
                clear c30
                obtain ⟨y305, hy305⟩ : ∃ y_ : List Int, y_ = (x6_1.set (((rd_T71 l0_1 (rd t292 x27_1)).f6) : Int).toNat (rd x6_1 (rd t292 x27_1))) := ⟨_, rfl⟩
                (try replace H := bS_ H); rw [← hy305] at H; try dsimp only at H
                have Ny305 := aS_ hy305
                clear hy305
                by_cases c32 : 0 ≤ ((rd_T71 l0_1 (rd t292 x27_1)).f7)
                ·rw [if_pos c32] at H
                 have c32b0 := decide_eq_true c32
                 clear c32
                 by_cases c33 : ((rd_T71 l0_1 (rd t292 x27_1)).f7) < (x6_1.length : Int)
                 ·rw [if_pos c33] at H
                  have c33b0 := decide_eq_true c33
                  clear c33
                  obtain ⟨y307, hy307⟩ : ∃ y_ : List Int, y_ = (y305.set (((rd_T71 l0_1 (rd t292 x27_1)).f7) : Int).toNat (wrap64 ((rd y305 (rd t292 x27_1)) + t298))) := ⟨_, rfl⟩
                  replace H : (thicketref13_Marks.l0 k1 y307 y301 t292 (t292.length : Int) (wrap64 (x27_1 + 1)) a0_0 l0_1) = some (r1, r2) := by first | (rw [hy307]; with_reducible exact H) | (have H2_ := (Option.bind_some _ _).symm.trans H; rw [hy307]; with_reducible exact H2_) | (have H2_ := (Option.bind_some _ _).symm.trans H; with_reducible exact H2_) | with_reducible exact H | (rw [hy307]; exact H) | exact H
                  have Ny307 := aS_ hy307
                  clear hy307
                  have H' := aS_ H
                  clear H
                  have p295 : 0 ≤ (x27_1 : Int) := of_decide_eq_true ka
                  have q295 : x27_1 < (t292.length : Int) := of_decide_eq_true ka
                  obtain ⟨ad295, e295, hx295_0⟩ := Kd.at_int (Kd.R_reads' HO_25.out).2.2 x27_1 p295 q295
                  cases e295
                  replace p295 := eq_true p295
                  replace q295 := eq_true q295
                  have hcz35 := blk2 (w := wr) BK286.out
                  have p296 : 0 ≤ ((rd t292 x27_1) : Int) := of_decide_eq_true ka
                  have q296 : (rd t292 x27_1) < (l0_1.length : Int) := of_decide_eq_true ka
                  obtain ⟨ad296, A296_4, c296_4, e296, hx296_0, hx296_1, hx296_2, hx296_3, hx296_4, hx296_5, hx296_6, hx296_7, hl296_4, hi296_4⟩ := at_T71 HR0_1.out (rd t292 x27_1) p296 q296
                  cases e296
                  replace hx296_0 := cB_ HB.out hx296_0
                  replace hx296_1 := cB_ HB.out hx296_1
                  replace hx296_2 := cB_ HB.out hx296_2
                  replace hx296_3 := cB_ HB.out hx296_3
                  replace hx296_4 := cB_ HB.out hx296_4
                  replace hx296_5 := cB_ HB.out hx296_5
                  replace hx296_6 := cB_ HB.out hx296_6
                  replace hx296_7 := cB_ HB.out hx296_7
                  have HR296_4 := aS_ hi296_4
                  have HC296_4 := aS_ hl296_4
                  clear hi296_4 hl296_4
                  replace p296 := eq_true p296
                  replace q296 := eq_true q296
                  try go_wp2_with (first | ((with_reducible refine gate_dst (N := 10) rfl ?_); refine box_event ?hg (N := 10) ?hd (cs := #[.int .u8 0, .int .i64 0, .int .i64 0, .float .f64 0, .slice none 0 0, .int .u8 0, .int .i64 0, .int .i64 0]) (t := 71) ?hr ?_; (case hd => rfl); (case hg => rfl); (case hr => first | (go_simp; done) | (go_simp; rfl)); intro gb297 hg w36 hbox hb; have n0_ := aS_ (Kd.R_below (kR HO_6) hb); have n1_ := aS_ (Kd.R_below (kR HO_7) hb); have n2_ := aS_ (Kd.R_below (kR HO_25) hb); have n3_ := aS_ (blk_below (g := gb286) (o := .cells #[.int .i64 a0_0, .slice (some ad296) l0_1.length c0_1] 53 (0, 0)) (kb BK286) hb); have n4_ := aS_ (below_step (kB1 HB GE286) hb); have n5_ := aS_ (hbox); have n6_ := aS_ ((kg hg (kB1 HB GE286) : w.heap.size ≤ gb297)); have n7_ := aS_ ((kg hg (kB1 HB GE286) : w.heap.size ≤ gb297)); have n8_ := aS_ ((by rw [hg]; exact Nat.ne_of_lt (blk_lt (g := gb286) (o := .cells #[.int .i64 a0_0, .slice (some ad296) l0_1.length c0_1] 53 (0, 0)) (kb BK286)) : gb286 ≠ gb297)); have n9_ := aS_ ((by rw [hg]; exact Nat.ne_of_gt (blk_lt (g := gb286) (o := .cells #[.int .i64 a0_0, .slice (some ad296) l0_1.length c0_1] 53 (0, 0)) (kb BK286)) : gb297 ≠ gb286)); clear HO_6; clear HO_7; clear HO_25; clear BK286; clear HB; have HO_6 := n0_; have HO_7 := n1_; have HO_25 := n2_; have BK286 := n3_; have HB := n4_; have BK297 := n5_; have GW297 := n6_; have GE297 := n7_; have NB286_297 := n8_; have NB297_286 := n9_; clear n0_ n1_ n2_ n3_ n4_ n5_ n6_ n7_ n8_ n9_; clear hb hbox hg; have hnb37 := NB297_286.out; have hnc37 := NB286_297.out; have hcz38 := blk8 (w := w36) BK297.out; have hcz39 := blk2 (w := w36) BK286.out) | ((with_reducible refine gate_callee (f := 54) rfl ?_); refine goesL_ (some 42) rfl rfl Try.func54 (by kernel_rfl) rfl #[.agg #[.int .i64 a0_0, .slice (some ad296) l0_1.length c0_1], .int .i64 ((rd_T71 l0_1 (rd t292 x27_1)).f6)] rfl (by (try simp only [List.map_toArray, List.map_cons, List.map_nil]); first | done | rfl | (simp only [List.length_drop, List.length_take]; rfl)) ?_; (with_reducible refine (thicketref13_below.calls k1 a0_0 _ _ l0_1 ((rd_T71 l0_1 (rd t292 x27_1)).f6) t298 _ ?side1 ?side2 A26.out).mono ?_); (case side1 => exact Kd.C_below HR0_1.out (kB2 HB GE286 GE297)); (case side2 => exact HC0_1.out); rintro e w40 ⟨rfl, hb⟩; refine ⟨_, rfl, ?_⟩; have n0_ := aS_ (Kd.R_below (by (with_reducible repeat (first | apply Kd.R_alloc | apply Kd.R_drewN | apply Kd.R_drew)); exact (Kd.R_mono (Kd.R_far8 (Kd.R_types HO_6.out BK297.out (by decide)) (fun _ hk => hk.2) _ _ _ _ _ _ _ _) (fun _ h_ => h_.1))) hb); have n1_ := aS_ (Kd.R_below (by (with_reducible repeat (first | apply Kd.R_alloc | apply Kd.R_drewN | apply Kd.R_drew)); exact (Kd.R_mono (Kd.R_far8 (Kd.R_types HO_7.out BK297.out (by decide)) (fun _ hk => hk.2) _ _ _ _ _ _ _ _) (fun _ h_ => h_.1))) hb); have n2_ := aS_ (Kd.R_below (by (with_reducible repeat (first | apply Kd.R_alloc | apply Kd.R_drewN | apply Kd.R_drew)); exact (Kd.R_mono (Kd.R_far8 (Kd.R_types HO_25.out BK297.out (by decide)) (fun _ hk => hk.2) _ _ _ _ _ _ _ _) (fun _ h_ => h_.1))) hb); have n3_ := aS_ (blk_below (g := gb286) (o := .cells #[.int .i64 a0_0, .slice (some ad296) l0_1.length c0_1] 53 (0, 0)) (by (with_reducible repeat (first | refine blk_drewN ?_ _ | refine blk_drew ?_ | refine blk_alloc ?_ _)); refine blk_far8 ?_ NB286_297.out _ _ _ _ _ _ _ _; (with_reducible repeat (first | refine blk_drewN ?_ _ | refine blk_drew ?_ | refine blk_alloc ?_ _)); exact BK286.out) hb); have n4_ := aS_ (blk_below (g := gb297) (o := .cells #[.int .u8 ((rd_T71 l0_1 (rd t292 x27_1)).f0), .int .i64 ((rd_T71 l0_1 (rd t292 x27_1)).f1), .int .i64 ((rd_T71 l0_1 (rd t292 x27_1)).f2), .float .f64 ((rd_T71 l0_1 (rd t292 x27_1)).f3), .slice A296_4 ((rd_T71 l0_1 (rd t292 x27_1)).f4).length c296_4, .int .u8 ((rd_T71 l0_1 (rd t292 x27_1)).f5), .int .i64 ((rd_T71 l0_1 (rd t292 x27_1)).f6), .int .i64 ((rd_T71 l0_1 (rd t292 x27_1)).f7)] 71 (0, 0)) (by (with_reducible repeat (first | refine blk_drewN ?_ _ | refine blk_drew ?_ | refine blk_alloc ?_ _)); exact blk_put8 (kb BK297) _ _ _ _ _ _ _ _) hb); have n5_ := aS_ (below_step (kB2 HB GE286 GE297) hb); clear HO_6; clear HO_7; clear HO_25; clear BK286; clear BK297; clear HB; have HO_6 := n0_; have HO_7 := n1_; have HO_25 := n2_; have BK286 := n3_; have BK297 := n4_; have HB := n5_; clear n0_ n1_ n2_ n3_ n4_ n5_; (try clear hb); (try clear hb2); (try clear hk); (try clear hi)))
                  have n0_ := aS_ (Kd.R_drew HO_6.out)
                  have n1_ := aS_ (Kd.R_drew HO_7.out)
                  have n2_ := aS_ (Kd.R_drew HO_25.out)
                  have n3_ := aS_ (blk_drew BK286.out)
                  have n4_ := aS_ (blk_drew BK297.out)
                  have n5_ := aS_ (below_drew1 HB.out)
                  clear HO_6
                  clear HO_7
                  clear HO_25
                  clear BK286
                  clear BK297
                  clear HB
                  have HO_6 := n0_
                  have HO_7 := n1_
                  have HO_25 := n2_
                  have BK286 := n3_
                  have BK297 := n4_
                  have HB := n5_
                  clear n0_ n1_ n2_ n3_ n4_ n5_
                  obtain ⟨Ao42, co42, eo42⟩ := Kd.R_slice HO_6.out
                  (first | subst eo42 | (injection eo42 with f1_ f2_ f3_; have f4_ := f1_.symm; have f5_ := f3_.symm; clear f1_ f2_ f3_; subst f4_; subst f5_))
                  have p299 : 0 ≤ ((rd t292 x27_1) : Int) := of_decide_eq_true ka
                  have q299 : (rd t292 x27_1) < (x6_1.length : Int) := of_decide_eq_true ka
                  obtain ⟨ad299, e299, hx299_0⟩ := Kd.at_int (Kd.R_reads' HO_6.out).2.2 (rd t292 x27_1) p299 q299
                  cases e299
                  replace p299 := eq_true p299
                  replace q299 := eq_true q299
                  have p300 : 0 ≤ ((rd t292 x27_1) : Int) := of_decide_eq_true ka
                  have q300 : (rd t292 x27_1) < (x6_1.length : Int) := of_decide_eq_true ka
                  obtain ⟨ad300, e300, hx300_0⟩ := Kd.at_int (Kd.R_reads' HO_6.out).2.2 (rd t292 x27_1) p300 q300
                  obtain rfl : ad299 = ad300 := (by injection e300)
                  replace p300 := eq_true p300
                  replace q300 := eq_true q300
                  refine start_ (n := 16) (S := fun w' => w'.cell? (ad299.add ((rd t292 x27_1)).toNat) = some (.int .i64 (rd x6_1 (rd t292 x27_1))) ∧ w'.cell? (ad299.add ((rd t292 x27_1)).toNat) = some (.int .i64 (rd x6_1 (rd t292 x27_1)))) (ds := [13, 14]) #[false, false, false, false, false, false, false, false, false, false, false, false, false, false, false, false] (by kernel_rfl) rfl rfl ⟨hx299_0, hx300_0⟩ (fun hHeld => ?_); refine with_tabW thicketref13_Marks.tab12 thicketref13_Marks.bits12 (fun HT_ HW_ => ?_)
                  generalize w40.drew = w41 at HO_6 HO_7 HO_25 BK286 BK297 HB hx299_0 hx300_0 hHeld ⊢
                  refine pq_ (v := ?_) (b := ?_) (m := ?_) 0 (some 43) ?_
                  refine pq_ (v := ?_) (b := ?_) (m := ?_) 1 (some 44) ?_
                  refine pq_ (v := ?_) (b := ?_) (m := ?_) 2 (some 45) ?_
                  refine pq_ (v := ?_) (b := ?_) (m := ?_) 3 (some 46) ?_
                  refine pq_ (v := ?_) (b := ?_) (m := ?_) 4 (some 47) ?_
                  refine pq_ (v := ?_) (b := ?_) (m := ?_) 6 (some 49) ?_
                  refine pq_ (v := ?_) (b := ?_) (m := ?_) 7 (some 50) ?_
                  refine pq_ (v := ?_) (b := ?_) (m := ?_) 8 (some 51) ?_
                  refine pq_ (v := ?_) (b := ?_) (m := ?_) 10 (some 53) ?_
                  refine tq_ (v := ?_) (b := ?_) (m := ?_) 5 (some 48) hHeld ?_
                  refine tq_ (v := ?_) (b := ?_) (m := ?_) 9 (some 52) hHeld ?_
                  refine pq_ (v := ?_) (b := ?_) (m := ?_) 11 (some 54) ?_
                  refine pq_ (v := ?_) (b := ?_) (m := ?_) 12 (some 55) ?_
                  refine lq_ (m := ?_) 13 (some 56) fun K hK => ?_
                  refine vq_ (v := ?_) (w1 := ?_) ?_
                  refine hK.out _ _ ?_
                  clear hK K
                  refine nq_ (b := ?_) (some 56) ?_
                  refine lq_ (m := ?_) 14 (some 57) fun K hK => ?_
                  refine Kd.R_append_step k58 (w0 := w) w.heap.size (by rfl) (.tmp 43) (.tmp 56) 48 58 (.agg #[(.int .i64 0), (.int .i64 0), (.int .i64 0)]) 24 rfl Try.underlying48 info58 rfl (by decide) (by omega) u7 x7_1 (⟨rd t292 x27_1, rd x6_1 (rd t292 x27_1), wrap64 ((rd x6_1 (rd t292 x27_1)) + t298)⟩ : S58) [.int .i64 (rd t292 x27_1), .int .i64 (rd x6_1 (rd t292 x27_1)), .int .i64 (wrap64 ((rd x6_1 (rd t292 x27_1)) + t298))] (fun _ => True) (fun _ => False) rfl rfl ?aP (fun _ hk => hk.elim) ?aF ?aO ?aB ?aS ?aL ?_
                  (case aP => exact k58_mkM _ _ _ (⟨rd t292 x27_1, rd x6_1 (rd t292 x27_1), wrap64 ((rd x6_1 (rd t292 x27_1)) + t298)⟩ : S58))
                  (case aB => exact (kB2 HB GE286 GE297))
                  (case aF => exact (fun _ _ => trivial))
                  (case aO => exact (kR HO_7))
                  (case aS => exact (below_size (kB2 HB GE286 GE297)))
                  (case aL => have := LMc28.out; omega)
                  intro v302 w43 ho hb hg hat
                  rw [← Ny301.out] at ho
                  have n0_ := aS_ (Kd.R_over' (kR HO_6) (Kd.R_typed (kR HO_7)) (by decide) hg)
                  have n1_ := aS_ (Kd.R_over' (kR HO_25) (Kd.R_typed (kR HO_7)) (by decide) hg)
                  have n2_ := aS_ (blk_grown (g := gb286) (o := .cells #[.int .i64 a0_0, .slice (some ad296) l0_1.length c0_1] 53 (0, 0)) (kb BK286) hg (Kd.R_ne HO_7.out BK286.out (by decide)))
                  have n3_ := aS_ (blk_grown (g := gb297) (o := .cells #[.int .u8 ((rd_T71 l0_1 (rd t292 x27_1)).f0), .int .i64 ((rd_T71 l0_1 (rd t292 x27_1)).f1), .int .i64 ((rd_T71 l0_1 (rd t292 x27_1)).f2), .float .f64 ((rd_T71 l0_1 (rd t292 x27_1)).f3), .slice A296_4 ((rd_T71 l0_1 (rd t292 x27_1)).f4).length c296_4, .int .u8 ((rd_T71 l0_1 (rd t292 x27_1)).f5), .int .i64 ((rd_T71 l0_1 (rd t292 x27_1)).f6), .int .i64 ((rd_T71 l0_1 (rd t292 x27_1)).f7)] 71 (0, 0)) (kb BK297) hg (Kd.R_ne HO_7.out BK297.out (by decide)))
                  have n4_ := aS_ (hb)
                  have n5_ := aS_ (ho)
                  clear HO_6
                  clear HO_25
                  clear BK286
                  clear BK297
                  clear HB
                  clear HO_7
                  have HO_6 := n0_
                  have HO_25 := n1_
                  have BK286 := n2_
                  have BK297 := n3_
                  have HB := n4_
                  have HO303 := n5_
                  clear n0_ n1_ n2_ n3_ n4_ n5_
                  clear ho hb hg hat
                  refine hK.out _ _ ?_
                  clear hK K
                  refine nq_ (b := ?_) (some 57) ?_
                  refine pq_ (v := ?_) (b := ?_) (m := ?_) 15 (some 7) ?_
                  refine done_ (done_of HT_.out (by kernel_rfl)) ?_
                  try go_wp2
                  have n0_ := aS_ (Kd.R_drew HO_6.out)
                  have n1_ := aS_ (Kd.R_drew HO_25.out)
                  have n2_ := aS_ (Kd.R_drew HO303.out)
                  have n3_ := aS_ (blk_drew BK286.out)
                  have n4_ := aS_ (blk_drew BK297.out)
                  have n5_ := aS_ (below_drew1 HB.out)
                  clear HO_6
                  clear HO_25
                  clear HO303
                  clear BK286
                  clear BK297
                  clear HB
                  have HO_6 := n0_
                  have HO_25 := n1_
                  have HO303 := n2_
                  have BK286 := n3_
                  have BK297 := n4_
                  have HB := n5_
                  clear n0_ n1_ n2_ n3_ n4_ n5_
                  have p304 : 0 ≤ ((rd t292 x27_1) : Int) := of_decide_eq_true ka
                  have q304 : (rd t292 x27_1) < (x6_1.length : Int) := of_decide_eq_true ka
                  obtain ⟨ad304, e304, hx304_0⟩ := Kd.at_int (Kd.R_reads' HO_6.out).2.2 (rd t292 x27_1) p304 q304
                  obtain rfl : ad299 = ad304 := (by injection e304)
                  replace p304 := eq_true p304
                  replace q304 := eq_true q304
                  have p31 : 0 ≤ (((rd_T71 l0_1 (rd t292 x27_1)).f6) : Int) := of_decide_eq_true ka
                  have q31 : (((rd_T71 l0_1 (rd t292 x27_1)).f6) : Int) < ((x6_1.length : Int) : Int) := of_decide_eq_true ka
                  obtain ⟨go31, co31, eo31, gb31, gl31, cl31, HG31⟩ := Kd.R_form HO_6.out (by omega)
                  (first | cases eo31 | (injection eo31 with ea_ en_ ec_; (first | subst ea_ | (injection ea_ with ea_; subst ea_)); subst ec_; clear en_))
                  have GB31 := aS_ gb31
                  have GG31 := aS_ HG31
                  clear gb31 gl31 HG31
                  (first | simp only [add_plain] at hx299_0 | skip)
                  (first | simp only [add_plain] at hx300_0 | skip)
                  (first | simp only [add_plain] at hx304_0 | skip)
                  obtain ⟨hx31_0, hf31_0⟩ := Kd.R_celln 0 HO_6.out (((rd_T71 l0_1 (rd t292 x27_1)).f6) : Int) p31 q31
                  replace p31 := eq_true p31
                  replace q31 := eq_true q31
                  have HP45 := Kd.R_putn HO_6.out (((rd_T71 l0_1 (rd t292 x27_1)).f6) : Int) (rd x6_1 (rd t292 x27_1))
                  rw [← Ny305.out] at HP45
                  have HQ45 := aS_ HP45
                  clear HP45
                  refine start_ (n := 9) (S := fun w' => w'.cell? ⟨gb297, 0, none⟩ = some (.int .u8 ((rd_T71 l0_1 (rd t292 x27_1)).f0)) ∧ w'.cell? ⟨gb297, 1, none⟩ = some (.int .i64 ((rd_T71 l0_1 (rd t292 x27_1)).f1)) ∧ w'.cell? ⟨gb297, 2, none⟩ = some (.int .i64 ((rd_T71 l0_1 (rd t292 x27_1)).f2)) ∧ w'.cell? ⟨gb297, 3, none⟩ = some (.float .f64 ((rd_T71 l0_1 (rd t292 x27_1)).f3)) ∧ w'.cell? ⟨gb297, 4, none⟩ = some (.slice A296_4 ((rd_T71 l0_1 (rd t292 x27_1)).f4).length c296_4) ∧ w'.cell? ⟨gb297, 5, none⟩ = some (.int .u8 ((rd_T71 l0_1 (rd t292 x27_1)).f5)) ∧ w'.cell? ⟨gb297, 6, none⟩ = some (.int .i64 ((rd_T71 l0_1 (rd t292 x27_1)).f6)) ∧ w'.cell? ⟨gb297, 7, none⟩ = some (.int .i64 ((rd_T71 l0_1 (rd t292 x27_1)).f7)) ∧ w'.cell? ⟨go31, ((rd t292 x27_1)).toNat, none⟩ = some (.int .i64 (rd x6_1 (rd t292 x27_1)))) (ds := [8]) #[false, false, false, false, false, false, false, false, false] (by kernel_rfl) rfl rfl ⟨(blk_cell BK297.out 0).trans rfl, (blk_cell BK297.out 1).trans rfl, (blk_cell BK297.out 2).trans rfl, (blk_cell BK297.out 3).trans rfl, (blk_cell BK297.out 4).trans rfl, (blk_cell BK297.out 5).trans rfl, (blk_cell BK297.out 6).trans rfl, (blk_cell BK297.out 7).trans rfl, hx304_0⟩ (fun hHeld => ?_); refine with_tabW thicketref13_Marks.tab13 thicketref13_Marks.bits13 (fun HT_ HW_ => ?_)
                  generalize w43.drew = w44 at HO_6 HO_25 HO303 BK286 BK297 HB GG31 HQ45 hf31_0 hx299_0 hx300_0 hx304_0 hx31_0 hHeld ⊢
                  refine pq_ (v := ?_) (b := ?_) (m := ?_) 0 (some 58) ?_
                  refine pq_ (v := ?_) (b := ?_) (m := ?_) 1 (some 59) ?_
                  refine pq_ (v := ?_) (b := ?_) (m := ?_) 3 (some 61) ?_
                  refine pq_ (v := ?_) (b := ?_) (m := ?_) 4 (some 62) ?_
                  refine pq_ (v := ?_) (b := ?_) (m := ?_) 5 (some 63) ?_
                  refine tq_ (v := ?_) (b := ?_) (m := ?_) 2 (some 60) hHeld ?_
                  refine tq_ (v := ?_) (b := ?_) (m := ?_) 6 (some 64) hHeld ?_
                  refine pq_ (v := ?_) (b := ?_) (m := ?_) 7 (some 65) ?_
                  refine lq_ (m := ?_) 8 none fun K hK => ?_
                  refine skip_ (w1 := ?_) (by rfl) rfl ?_ ?_
                  rotate_left
                  ·go_simp
                   rfl
                  refine hK.out _ _ ?_
                  clear hK K
                  refine done_ (done_of HT_.out (by kernel_rfl)) ?_
                  try go_wp2
                  have n0_ : Aside0 (Kd.R (Kd.int .i64) 3 (w44.setCell ⟨go31, (((rd_T71 l0_1 (rd t292 x27_1)).f6) : Int).toNat, none⟩ (.int .i64 (rd x6_1 (rd t292 x27_1)))) w.heap.size (fun k_ => some k_ ≠ (.slice (some ad295) t292.length co15 : Value).ownBlock) (.slice (some ⟨go31, 0, none⟩) x6_1.length co42) y305) := ⟨kR HQ45⟩
                  have n1_ : Aside0 (Kd.R (Kd.int .i64) 3 (w44.setCell ⟨go31, (((rd_T71 l0_1 (rd t292 x27_1)).f6) : Int).toNat, none⟩ (.int .i64 (rd x6_1 (rd t292 x27_1)))) w.heap.size (fun k_ => some k_ ≠ (.slice (some ⟨go31, 0, none⟩) x6_1.length co42 : Value).ownBlock) (.slice (some ad295) t292.length co15) t292) := ⟨by (with_reducible repeat (first | apply Kd.R_alloc | apply Kd.R_drewN | apply Kd.R_drew)); exact Kd.R_mono (Kd.R_far (p := ⟨go31, (((rd_T71 l0_1 (rd t292 x27_1)).f6) : Int).toNat, none⟩) (Kd.R_mono HO_25.out (fun k_ hk => (⟨hk, fun e_ => hk (by rw [e_]; rfl)⟩ : _ ∧ k_ ≠ go31))) (fun _ hk => hk.2) (.int .i64 (rd x6_1 (rd t292 x27_1)))) (fun _ hk => hk.1)⟩
                  have n2_ : Aside0 (Kd.R k58 58 (w44.setCell ⟨go31, (((rd_T71 l0_1 (rd t292 x27_1)).f6) : Int).toNat, none⟩ (.int .i64 (rd x6_1 (rd t292 x27_1)))) w.heap.size (fun _ => True) v302 y301) := ⟨by (with_reducible repeat (first | apply Kd.R_alloc | apply Kd.R_drewN | apply Kd.R_drew)); exact Kd.R_mono (Kd.R_far (p := ⟨go31, (((rd_T71 l0_1 (rd t292 x27_1)).f6) : Int).toNat, none⟩) (Kd.R_types HO303.out GG31.out (by decide)) (fun _ hk => hk.2) (.int .i64 (rd x6_1 (rd t292 x27_1)))) (fun _ hk => trivial)⟩
                  have n3_ : Aside0 ((w44.setCell ⟨go31, (((rd_T71 l0_1 (rd t292 x27_1)).f6) : Int).toNat, none⟩ (.int .i64 (rd x6_1 (rd t292 x27_1)))).heap[gb286]? = some (.cells #[.int .i64 a0_0, .slice (some ad296) l0_1.length c0_1] 53 (0, 0))) := ⟨by (with_reducible repeat (first | refine blk_drewN ?_ _ | refine blk_drew ?_ | refine blk_alloc ?_ _)); refine blk_far ?_ (by have h_ := Kd.R_ne HO_6.out BK286.out (by decide); intro e_; exact h_ (by rw [e_]; rfl)) _; (with_reducible repeat (first | refine blk_drewN ?_ _ | refine blk_drew ?_ | refine blk_alloc ?_ _)); exact BK286.out⟩
                  have n4_ : Aside0 ((w44.setCell ⟨go31, (((rd_T71 l0_1 (rd t292 x27_1)).f6) : Int).toNat, none⟩ (.int .i64 (rd x6_1 (rd t292 x27_1)))).heap[gb297]? = some (.cells #[.int .u8 ((rd_T71 l0_1 (rd t292 x27_1)).f0), .int .i64 ((rd_T71 l0_1 (rd t292 x27_1)).f1), .int .i64 ((rd_T71 l0_1 (rd t292 x27_1)).f2), .float .f64 ((rd_T71 l0_1 (rd t292 x27_1)).f3), .slice A296_4 ((rd_T71 l0_1 (rd t292 x27_1)).f4).length c296_4, .int .u8 ((rd_T71 l0_1 (rd t292 x27_1)).f5), .int .i64 ((rd_T71 l0_1 (rd t292 x27_1)).f6), .int .i64 ((rd_T71 l0_1 (rd t292 x27_1)).f7)] 71 (0, 0))) := ⟨by (with_reducible repeat (first | refine blk_drewN ?_ _ | refine blk_drew ?_ | refine blk_alloc ?_ _)); refine blk_far ?_ (by have h_ := Kd.R_ne HO_6.out BK297.out (by decide); intro e_; exact h_ (by rw [e_]; rfl)) _; (with_reducible repeat (first | refine blk_drewN ?_ _ | refine blk_drew ?_ | refine blk_alloc ?_ _)); exact BK297.out⟩
                  have n5_ : Aside0 (Below w.heap.size w (w44.setCell ⟨go31, (((rd_T71 l0_1 (rd t292 x27_1)).f6) : Int).toNat, none⟩ (.int .i64 (rd x6_1 (rd t292 x27_1))))) := ⟨kB3 HB GB31 GE286 GE297⟩
                  (try clear HO_6)
                  (try clear HO_25)
                  (try clear HO303)
                  (try clear BK286)
                  (try clear BK297)
                  (try clear HB)
                  generalize (w44.setCell ⟨go31, (((rd_T71 l0_1 (rd t292 x27_1)).f6) : Int).toNat, none⟩ (.int .i64 (rd x6_1 (rd t292 x27_1)))) = w46 at n0_ n1_ n2_ n3_ n4_ n5_ ⊢
                  have HO_6 := n0_
                  have HO_25 := n1_
                  have HO303 := n2_
                  have BK286 := n3_
                  have BK297 := n4_
                  have HB := n5_
                  clear n0_ n1_ n2_ n3_ n4_ n5_
                  have n0_ := aS_ (Kd.R_drew HO_6.out)
                  have n1_ := aS_ (Kd.R_drew HO_25.out)
                  have n2_ := aS_ (Kd.R_drew HO303.out)
                  have n3_ := aS_ (blk_drew BK286.out)
                  have n4_ := aS_ (blk_drew BK297.out)
                  have n5_ := aS_ (below_drew1 HB.out)
                  clear HO_6
                  clear HO_25
                  clear HO303
                  clear BK286
                  clear BK297
                  clear HB
                  have HO_6 := n0_
                  have HO_25 := n1_
                  have HO303 := n2_
                  have BK286 := n3_
                  have BK297 := n4_
                  have HB := n5_
                  clear n0_ n1_ n2_ n3_ n4_ n5_
                  have p306 : 0 ≤ ((rd t292 x27_1) : Int) := of_decide_eq_true ka
                  have q306 : (rd t292 x27_1) < (y305.length : Int) := (by have h_ : ((rd t292 x27_1) : Int) < ((x6_1.length : Int) : Int) := of_decide_eq_true ka; first | (have e_ := (Kd.R_reads' HO_6.out).1; omega) | simpa only [Ny305.out, List.length_set] using h_)
                  have ql306 : (((rd t292 x27_1) : Int) < ((x6_1.length : Int) : Int)) = True := eq_true (of_decide_eq_true ka)
                  obtain ⟨ad306, e306, hx306_0⟩ := Kd.at_int (Kd.R_reads' HO_6.out).2.2 (rd t292 x27_1) p306 q306
                  obtain rfl : (⟨go31, 0, none⟩ : Addr) = ad306 := (by injection e306)
                  (first | simp only [add_plain] at hx306_0 | simp only [add_at] at hx306_0 | simp only [Addr.add, Nat.zero_add] at hx306_0 | skip)
                  replace p306 := eq_true p306
                  replace q306 := eq_true q306
                  have p34 : 0 ≤ (((rd_T71 l0_1 (rd t292 x27_1)).f7) : Int) := of_decide_eq_true ka
                  have q34 : (((rd_T71 l0_1 (rd t292 x27_1)).f7) : Int) < ((x6_1.length : Int) : Int) := of_decide_eq_true ka
                  obtain ⟨hx34_0, hf34_0⟩ := Kd.R_celln 0 HO_6.out (((rd_T71 l0_1 (rd t292 x27_1)).f7) : Int) p34 q34
                  replace p34 := eq_true p34
                  replace q34 := eq_true q34
                  have HP48 := Kd.R_putn HO_6.out (((rd_T71 l0_1 (rd t292 x27_1)).f7) : Int) (wrap64 ((rd y305 (rd t292 x27_1)) + t298))
                  rw [← Ny307.out] at HP48
                  have HQ48 := aS_ HP48
                  clear HP48
                  refine start_ (n := 11) (S := fun w' => w'.cell? ⟨gb297, 0, none⟩ = some (.int .u8 ((rd_T71 l0_1 (rd t292 x27_1)).f0)) ∧ w'.cell? ⟨gb297, 1, none⟩ = some (.int .i64 ((rd_T71 l0_1 (rd t292 x27_1)).f1)) ∧ w'.cell? ⟨gb297, 2, none⟩ = some (.int .i64 ((rd_T71 l0_1 (rd t292 x27_1)).f2)) ∧ w'.cell? ⟨gb297, 3, none⟩ = some (.float .f64 ((rd_T71 l0_1 (rd t292 x27_1)).f3)) ∧ w'.cell? ⟨gb297, 4, none⟩ = some (.slice A296_4 ((rd_T71 l0_1 (rd t292 x27_1)).f4).length c296_4) ∧ w'.cell? ⟨gb297, 5, none⟩ = some (.int .u8 ((rd_T71 l0_1 (rd t292 x27_1)).f5)) ∧ w'.cell? ⟨gb297, 6, none⟩ = some (.int .i64 ((rd_T71 l0_1 (rd t292 x27_1)).f6)) ∧ w'.cell? ⟨gb297, 7, none⟩ = some (.int .i64 ((rd_T71 l0_1 (rd t292 x27_1)).f7)) ∧ w'.cell? ⟨go31, ((rd t292 x27_1)).toNat, none⟩ = some (.int .i64 (rd y305 (rd t292 x27_1)))) (ds := [10]) #[false, false, false, false, false, false, false, false, false, false, false] (by kernel_rfl) rfl rfl ⟨(blk_cell BK297.out 0).trans rfl, (blk_cell BK297.out 1).trans rfl, (blk_cell BK297.out 2).trans rfl, (blk_cell BK297.out 3).trans rfl, (blk_cell BK297.out 4).trans rfl, (blk_cell BK297.out 5).trans rfl, (blk_cell BK297.out 6).trans rfl, (blk_cell BK297.out 7).trans rfl, hx306_0⟩ (fun hHeld => ?_); refine with_tabW thicketref13_Marks.tab14 thicketref13_Marks.bits14 (fun HT_ HW_ => ?_)
                  generalize w46.drew = w47 at HO_6 HO_25 HO303 BK286 BK297 HB HQ45 HQ48 hf34_0 hx306_0 hx34_0 hHeld ⊢
                  refine pq_ (v := ?_) (b := ?_) (m := ?_) 0 (some 66) ?_
                  refine pq_ (v := ?_) (b := ?_) (m := ?_) 1 (some 67) ?_
                  refine pq_ (v := ?_) (b := ?_) (m := ?_) 3 (some 69) ?_
                  refine pq_ (v := ?_) (b := ?_) (m := ?_) 4 (some 70) ?_
                  refine pq_ (v := ?_) (b := ?_) (m := ?_) 5 (some 71) ?_
                  refine pq_ (v := ?_) (b := ?_) (m := ?_) 7 (some 73) ?_
                  refine tq_ (v := ?_) (b := ?_) (m := ?_) 2 (some 68) hHeld ?_
                  refine tq_ (v := ?_) (b := ?_) (m := ?_) 6 (some 72) hHeld ?_
                  refine pq_ (v := ?_) (b := ?_) (m := ?_) 8 (some 74) ?_
                  refine pq_ (v := ?_) (b := ?_) (m := ?_) 9 (some 75) ?_
                  refine lq_ (m := ?_) 10 none fun K hK => ?_
                  refine skip_ (w1 := ?_) (by rfl) rfl ?_ ?_
                  rotate_left
                  ·go_simp
                   rfl
                  refine hK.out _ _ ?_
                  clear hK K
                  refine done_ (done_of HT_.out (by kernel_rfl)) ?_
                  try go_wp2
                  go_roundg k1
                  case measure => have := HK1.out; omega
                  case rel => exact ⟨(y307), (y301), (wrap64 (x27_1 + 1)), kr, H', ⟨by have := HK1.out; omega⟩, ⟨kR HQ48⟩, ⟨by (with_reducible repeat (first | apply Kd.R_alloc | apply Kd.R_drewN | apply Kd.R_drew)); exact Kd.R_mono (Kd.R_far (p := ⟨go31, (((rd_T71 l0_1 (rd t292 x27_1)).f7) : Int).toNat, none⟩) (Kd.R_types HO303.out (Kd.R_typed HO_6.out go31 rfl).choose_spec (by decide)) (fun _ hk => hk.2) (.int .i64 (wrap64 ((rd y305 (rd t292 x27_1)) + t298)))) (fun _ hk => trivial)⟩, ⟨by (with_reducible repeat (first | apply Kd.R_alloc | apply Kd.R_drewN | apply Kd.R_drew)); exact Kd.R_mono (Kd.R_far (p := ⟨go31, (((rd_T71 l0_1 (rd t292 x27_1)).f7) : Int).toNat, none⟩) (Kd.R_mono HO_25.out (fun k_ hk => (⟨hk, fun e_ => hk (by rw [e_]; rfl)⟩ : _ ∧ k_ ≠ go31))) (fun _ hk => hk.2) (.int .i64 (wrap64 ((rd y305 (rd t292 x27_1)) + t298)))) (fun _ hk => hk.1)⟩, ⟨by (with_reducible repeat (first | refine blk_drewN ?_ _ | refine blk_drew ?_ | refine blk_alloc ?_ _)); refine blk_far ?_ (by have h_ := Kd.R_ne HO_6.out BK286.out (by decide); intro e_; exact h_ (by rw [e_]; rfl)) _; (with_reducible repeat (first | refine blk_drewN ?_ _ | refine blk_drew ?_ | refine blk_alloc ?_ _)); exact BK286.out⟩, ⟨kB3 HB GB31 GE286 GE297⟩⟩
                 ·rw [if_neg c33] at H
                  exact absurd H (by simp)
                ·rw [if_neg c32] at H
                 exact absurd H (by simp)
               ·rw [if_neg c30] at H
                exact absurd H (by simp)
              ·rw [if_neg c29] at H
               exact absurd H (by simp)
             ·rw [if_neg c28] at H
              exact absurd H (by simp)
            ·rw [if_neg c27] at H
             exact absurd H (by simp)
          ·rw [if_neg c20] at H
           exact absurd H (by simp)
         ·rw [if_neg c19] at H
          exact absurd H (by simp)
        ·rw [if_neg c18] at H
         exact absurd H (by simp)
       ·rw [if_neg c17] at H
        exact absurd H (by simp)
      ·rw [if_neg c16] at H
       have c16b0 := decide_eq_false c16
       clear c16
       simp only [Option.some.injEq, Prod.mk.injEq] at H
       obtain ⟨rfl, rfl⟩ := H
       go_wp2
       go_ret2
       exact ⟨_, by first | rfl | (simp [errW_none, errW_some] <;> rfl) | (simp [*, errW_none, errW_some] <;> rfl), by (with_reducible repeat (first | apply Kd.R_alloc | apply Kd.R_drewN | apply Kd.R_drew)); exact HO_7.out, kB1 HB GE286⟩
   ·rw [if_neg c5] at H
    exact absurd H (by simp)
  ·rw [if_neg c4] at H
   exact absurd H (by simp)
 ·rw [if_neg c3] at H
  have c3b0 := beq_eq_false_iff_ne.mpr c3
  have c3b1 := bne_iff_ne.mpr c3
  simp only [Option.some.injEq, Prod.mk.injEq] at H
  obtain ⟨rfl, rfl⟩ := H
  go_enter Try.func31, Try.ntmps31
  go_wp2_with (first | ((with_reducible refine gate_dst (N := 1) rfl ?_); refine box_event ?hg (N := 1) ?hd (cs := #[.int .i64 a0_0, .slice A0_1 l0_1.length c0_1]) (t := 53) ?hr ?_; (case hd => rfl); (case hg => rfl); (case hr => first | (go_simp; done) | (go_simp; rfl)); intro gb286 hg w49 hbox hb; have n0_ := aS_ (below_step (kB0 HB) hb); have n1_ := aS_ (hbox); have n2_ := aS_ ((kg hg (kB0 HB) : w.heap.size ≤ gb286)); have n3_ := aS_ ((kg hg (kB0 HB) : w.heap.size ≤ gb286)); clear HB; have HB := n0_; have BK286 := n1_; have GW286 := n2_; have GE286 := n3_; clear n0_ n1_ n2_ n3_; clear hb hbox hg; have hcz50 := blk2 (w := w49) BK286.out) | ((with_reducible refine gate_callee (f := 51) rfl ?_); refine goesL_ (some 14) rfl rfl Try.func51 (by kernel_rfl) rfl #[.agg #[.int .i64 a0_0, .slice A0_1 l0_1.length c0_1]] rfl (by (try simp only [List.map_toArray, List.map_cons, List.map_nil]); first | done | rfl | (simp only [List.length_drop, List.length_take]; rfl)) ?_; (with_reducible refine (thicketref13_Count.calls k a0_0 _ _ l0_1 t287 t288 _ ?side1 ?side2 A2.out).mono ?_); (case side1 => repeat (first | exact (Kd.C_below HR0_1.out HB.out) | (with_reducible refine Kd.C_alloc ?_ _) | (with_reducible refine Kd.C_drewN ?_ _) | (with_reducible refine Kd.C_drew ?_))); (case side2 => exact HC0_1.out); rintro e w51 ⟨rfl, hb⟩; refine ⟨_, rfl, ?_⟩; have n0_ := aS_ (blk_below (g := gb286) (o := .cells #[.int .i64 a0_0, .slice A0_1 l0_1.length c0_1] 53 (0, 0)) (kb BK286) hb); have n1_ := aS_ (below_step (kB1 HB GE286) hb); clear BK286; clear HB; have BK286 := n0_; have HB := n1_; clear n0_ n1_; (try clear hb); (try clear hb2); (try clear hk); (try clear hi)))
  go_ret2
  exact ⟨_, by first | rfl | (simp [errW_none, errW_some] <;> rfl) | (simp [*, errW_none, errW_some] <;> rfl), by first | exact Kd.R_nil _ _ _ _ _ | exact Kd.N_nil _ _ _ _ _ | exact Kd.V_nil _ _ _ _ _ | exact Kd.Q_nil _ _ _ _ _ | exact Kd.S_nil _ _ _ _ _, kB1 HB GE286⟩
-- NOT PRINTED: function 32 (thicketref14_put)
-- NOT PRINTED: function 9 (thicketref14_Of)
-- NOT PRINTED: function 47 (math_Float64bits)
/-! ### thicketref14_One: function 35 -/
def thicketref14_One.f (a0 : Nat) (a1 : Nat) : Option (Bool) := if (f64bits a0) = (f64bits a1) then (some true) else (if ((feq a0 a0) = true) then (some false) else (some (!(feq a1 a1))))
set_option maxHeartbeats 8000000 in
set_option maxRecDepth 100000 in
theorem thicketref14_One.calls (a0 : Nat) (a1 : Nat) (r : Bool) (w : World) (h : thicketref14_One.f a0 a1 = some r) :
  Calls Try.prog 35 #[.float .f64 a0, .float .f64 a1] w fun e w' => e = .returned (.bool r) ∧ Drawn0 w w' := by
 have H : (if (f64bits a0) = (f64bits a1) then (some true) else (if ((feq a0 a0) = true) then (some false) else (some (!(feq a1 a1))))) = some r := h
 clear h
 by_cases c3 : (f64bits a0) = (f64bits a1)
 ·rw [if_pos c3] at H
  have c3b0 := beq_iff_eq.mpr c3
  have c3b1 := bne_eq_false_iff_eq.mpr c3
  clear c3
  obtain rfl := Option.some.inj H
  go_enter Try.func35, Try.ntmps35
  go_wp2
  go_ret
  exact ⟨by first | rfl | (simp; done) | (simp [*]; done), by repeat (first | exact Drawn0.refl _ | apply Drawn0.step)⟩
 ·rw [if_neg c3] at H
  have c3b0 := beq_eq_false_iff_ne.mpr c3
  have c3b1 := bne_iff_ne.mpr c3
  by_cases c4 : ((feq a0 a0) = true)
  ·rw [if_pos c4] at H
   have c4b0 : (feq a0 a0) = true := c4
   clear c4
   obtain rfl := Option.some.inj H
   go_enter Try.func35, Try.ntmps35
   go_wp2
   go_ret
   exact ⟨by first | rfl | (simp; done) | (simp [*]; done), by repeat (first | exact Drawn0.refl _ | apply Drawn0.step)⟩
  ·rw [if_neg c4] at H
   have c4b0 : (feq a0 a0) = false := by simpa using c4
   clear c4
   obtain rfl := Option.some.inj H
   go_enter Try.func35, Try.ntmps35
   go_wp2
   go_ret
   exact ⟨by first | rfl | (simp; done) | (simp [*]; done), by repeat (first | exact Drawn0.refl _ | apply Drawn0.step)⟩
end Go.Proofs.Ytfmjgjfbnilpoaa.FAll
