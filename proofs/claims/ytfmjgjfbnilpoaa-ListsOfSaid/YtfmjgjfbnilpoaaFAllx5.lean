-- written by fprint.sh, a program of ours over the kit's print: not by hand
import Derived.Test.YtfmjgjfbnilpoaaZq
import Derived.Test.YtfmjgjfbnilpoaaEi
import Derived.Test.YtfmjgjfbnilpoaaFAllx0
import Derived.Test.YtfmjgjfbnilpoaaFAllx3
import Derived.Test.YtfmjgjfbnilpoaaFAllx4
namespace Go.Proofs.Ytfmjgjfbnilpoaa.FAll
open Go.RowKit YtfmjgjfbnilpoaaW.PrintWords YtfmjgjfbnilpoaaW.PrintLast YtfmjgjfbnilpoaaW.PrintMore
attribute [local go_sem] feq_walk fne_walk flt_walk fle_walk fgt_walk fge_walk fint_walk fstore_walk run_f64bits run_f64from max2_int min2_int max_two min_two max_three min_three max_four min_four   -- for this text's walks alone
set_option linter.unusedVariables false
set_option linter.unusedSimpArgs false
/-! ### thicketref07_kind: function 74 -/
def thicketref07_kind.l0 : Nat → Bool → List Int → List Int → Int → Int → Int → List (S71) → Option (List Int × Int)
 | 0, _, _, _, _, _, _, _ => none
 | k + 1, x1, x8, x20, x21, x22, x242000, x242001 => if x22 < x21 then (if 0 ≤ x22 then (if x22 < (x20.length : Int) then (if 0 ≤ (rd x20 x22) then (if (rd x20 x22) < (x242001.length : Int) then (if ((((rd_T71 x242001 (rd x20 x22)).f0) == 1) == x1) = true then (if x8.length < 17592186044416 then (thicketref07_kind.l0 k x1 (x8 ++ [rd x20 x22]) x20 x21 (wrap64 (x22 + 1)) x242000 x242001) else (none)) else (thicketref07_kind.l0 k x1 x8 x20 x21 (wrap64 (x22 + 1)) x242000 x242001)) else (none)) else (none)) else (none)) else (none)) else (some (x8, 0))
def thicketref07_kind.f (k : Nat) (a0_0 : Int) (l0_1 : List (S71)) (a1 : Bool) : Option (List Int × Int) := (thicketref07_Shape.f k a0_0 l0_1).bind fun bt242 => (if bt242.1 = 0 then ((thicketref07_Order.f k a0_0 l0_1).bind fun t244 => (thicketref07_kind.l0 k a1 ([] : List Int) t244 (t244.length : Int) 0 a0_0 l0_1)) else (some (([] : List Int), bt242.1)))
theorem thicketref07_kind.mono_l : ∀ k, (∀ y0 y1 y2 y3 y4 y5 y6, LeO (thicketref07_kind.l0 k y0 y1 y2 y3 y4 y5 y6) (thicketref07_kind.l0 (k + 1) y0 y1 y2 y3 y4 y5 y6))
 | 0 => fun _ _ _ _ _ _ _ r h => by simp [thicketref07_kind.l0] at h
 | k + 1 => by
  have ih0 := thicketref07_kind.mono_l k
  ·intro y0 y1 y2 y3 y4 y5 y6
   unfold thicketref07_kind.l0
   repeat' first
   | (with_reducible exact ih0 _ _ _ _ _ _ _)
   | (with_reducible exact thicketref07_Order.mono _ _ _)
   | (with_reducible exact thicketref07_Shape.mono _ _ _)
   | (with_reducible exact LeO.refl _)
   | (with_reducible exact LeO.none _)
   | (with_reducible refine LeO.ite ?_ ?_)
   | (with_reducible refine LeO.bind ?_ (fun _ => ?_))
theorem thicketref07_kind.mono : ∀ a0 a1 a2 k, LeO (thicketref07_kind.f k a0 a1 a2) (thicketref07_kind.f (k + 1) a0 a1 a2) := by
 intro a0 a1 a2 k
 have ih0 := thicketref07_kind.mono_l k
 unfold thicketref07_kind.f
 repeat' first
   | (with_reducible exact ih0 _ _ _ _ _ _ _)
   | (with_reducible exact thicketref07_Order.mono _ _ _)
   | (with_reducible exact thicketref07_Shape.mono _ _ _)
   | (with_reducible exact LeO.refl _)
   | (with_reducible exact LeO.none _)
   | (with_reducible refine LeO.ite ?_ ?_)
   | (with_reducible refine LeO.bind ?_ (fun _ => ?_))
set_option maxHeartbeats 8000000 in
set_option maxRecDepth 100000 in
theorem thicketref07_kind.calls (k : Nat) (a0_0 : Int) (A0_1 : Option Addr) (c0_1 : Nat) (l0_1 : List (S71)) (a1 : Bool) (r1 : List Int) (r2 : Int) (w : World) (hr0_1 : Kd.C k71 w A0_1 l0_1.length l0_1) (hc0_1 : l0_1.length ≤ c0_1) (h : thicketref07_kind.f k a0_0 l0_1 a1 = some (r1, r2)) :
  Calls Try.prog 74 #[.agg #[.int .i64 a0_0, .slice A0_1 l0_1.length c0_1], .bool a1] w fun e w' => ∃ v0_ : Value, e = .returned (.tuple #[v0_, .int .i64 r2]) ∧ Kd.R (Kd.int .i64) 3 w' w.heap.size (fun _ => True) v0_ r1 ∧ Below w.heap.size w w' := by
 have hu53 := Try.underlying53
 have HR0_1 := aS_ hr0_1
 have HC0_1 := aS_ hc0_1
 clear hr0_1 hc0_1
 have HB := aS_ (Below.refl w.heap.size w)
 have H : ((thicketref07_Shape.f k a0_0 l0_1).bind fun bt242 => (if bt242.1 = 0 then ((thicketref07_Order.f k a0_0 l0_1).bind fun t244 => (thicketref07_kind.l0 k a1 ([] : List Int) t244 (t244.length : Int) 0 a0_0 l0_1)) else (some (([] : List Int), bt242.1)))) = some (r1, r2) := h
 clear h
 replace H := Option.bind_eq_some_iff.mp H
 obtain ⟨⟨t242, t243⟩, A30, H⟩ := H
 try dsimp only at H
 have A3 := aS_ A30
 clear A30
 by_cases c4 : t242 = 0
 ·rw [if_pos c4] at H
  have c4b0 := beq_iff_eq.mpr c4
  have c4b1 := bne_eq_false_iff_eq.mpr c4
  clear c4
  replace H := Option.bind_eq_some_iff.mp H
  obtain ⟨t244, A50, H⟩ := H
  try dsimp only at H
  have A5 := aS_ A50
  clear A50
  have H' := aS_ H
  clear H
  go_enter Try.func74, Try.ntmps74
  go_wp2_with (first | ((with_reducible refine gate_dst (N := 2) rfl ?_); refine box_event ?hg (N := 2) ?hd (cs := #[.int .i64 a0_0, .slice A0_1 l0_1.length c0_1]) (t := 53) ?hr ?_; (case hd => rfl); (case hg => rfl); (case hr => first | (go_simp; done) | (go_simp; rfl)); intro gb241 hg w6 hbox hb; have n0_ := aS_ (below_step (kB0 HB) hb); have n1_ := aS_ (hbox); have n2_ := aS_ ((kg hg (kB0 HB) : w.heap.size ≤ gb241)); have n3_ := aS_ ((kg hg (kB0 HB) : w.heap.size ≤ gb241)); clear HB; have HB := n0_; have BK241 := n1_; have GW241 := n2_; have GE241 := n3_; clear n0_ n1_ n2_ n3_; clear hb hbox hg; have hcz7 := blk2 (w := w6) BK241.out) | ((with_reducible refine gate_callee (f := 79) rfl ?_); refine goesL_ (some 13) rfl rfl Try.func79 (by kernel_rfl) rfl #[.agg #[.int .i64 a0_0, .slice A0_1 l0_1.length c0_1]] rfl (by (try simp only [List.map_toArray, List.map_cons, List.map_nil]); first | done | rfl | (simp only [List.length_drop, List.length_take]; rfl)) ?_; (with_reducible refine (thicketref07_Shape.calls k a0_0 _ _ l0_1 t242 t243 _ ?side1 ?side2 A3.out).mono ?_); (case side1 => repeat (first | exact (Kd.C_below HR0_1.out HB.out) | (with_reducible refine Kd.C_alloc ?_ _) | (with_reducible refine Kd.C_drewN ?_ _) | (with_reducible refine Kd.C_drew ?_))); (case side2 => exact HC0_1.out); rintro e w8 ⟨rfl, hb⟩; refine ⟨_, rfl, ?_⟩; have n0_ := aS_ (blk_below (g := gb241) (o := .cells #[.int .i64 a0_0, .slice A0_1 l0_1.length c0_1] 53 (0, 0)) (kb BK241) hb); have n1_ := aS_ (below_step (kB1 HB GE241) hb); clear BK241; clear HB; have BK241 := n0_; have HB := n1_; clear n0_ n1_; (try clear hb); (try clear hb2); (try clear hk); (try clear hi); have hcz9 := blk2 (w := w8) BK241.out) | ((with_reducible refine gate_callee (f := 53) rfl ?_); refine goesL_ (some 20) rfl rfl Try.func53 (by kernel_rfl) rfl #[.agg #[.int .i64 a0_0, .slice A0_1 l0_1.length c0_1]] rfl (by (try simp only [List.map_toArray, List.map_cons, List.map_nil]); first | done | rfl | (simp only [List.length_drop, List.length_take]; rfl)) ?_; (with_reducible refine (thicketref07_Order.calls k a0_0 _ _ l0_1 t244 _ ?side1 ?side2 A5.out).mono ?_); (case side1 => repeat (first | exact (Kd.C_below HR0_1.out HB.out) | (with_reducible refine Kd.C_alloc ?_ _) | (with_reducible refine Kd.C_drewN ?_ _) | (with_reducible refine Kd.C_drew ?_))); (case side2 => exact HC0_1.out); rintro e w10 ⟨v245, rfl, ho0, hb⟩; refine ⟨_, rfl, ?_⟩; have n0_ := aS_ (Kd.R_lower ho0 (below_size (kB1 HB GE241))); have n1_ := aS_ (blk_below (g := gb241) (o := .cells #[.int .i64 a0_0, .slice A0_1 l0_1.length c0_1] 53 (0, 0)) (kb BK241) hb); have n2_ := aS_ (below_step (kB1 HB GE241) hb); clear BK241; clear HB; have HO246 := n0_; have BK241 := n1_; have HB := n2_; clear n0_ n1_ n2_; (try clear hb); (try clear hb2); (try clear hk); (try clear hi); (try clear ho0); obtain ⟨Ao11, co11, eo11⟩ := Kd.R_slice HO246.out; subst eo11))
  go_loopg [8, 22] k (fun kq v8 v22 w' => ∃ (x8_1 : List Int) (x22_1 : Int), v22 = .int .i64 x22_1 ∧ Aside0 (thicketref07_kind.l0 kq a1 x8_1 t244 (t244.length : Int) x22_1 a0_0 l0_1 = some (r1, r2)) ∧ Aside0 (kq ≤ k) ∧ Aside0 (Kd.R (Kd.int .i64) 3 w' w.heap.size (fun k_ => some k_ ≠ ((.slice Ao11 t244.length co11) : Value).ownBlock) v8 x8_1) ∧ Aside0 (Kd.R (Kd.int .i64) 3 w' w.heap.size (fun k_ => some k_ ≠ (v8 : Value).ownBlock) (.slice Ao11 t244.length co11) t244) ∧ Aside0 (w'.heap[gb241]? = some (.cells #[.int .i64 a0_0, (.slice A0_1 l0_1.length c0_1)] 53 (0, 0))) ∧ Aside0 (Below w.heap.size w w'))
  case atStart => exact ⟨(([] : List Int)), (0), kr, H', ⟨Nat.le_refl _⟩, ⟨by first | exact Kd.R_nil _ _ _ _ _ | exact Kd.N_nil _ _ _ _ _ | exact Kd.V_nil _ _ _ _ _ | exact Kd.Q_nil _ _ _ _ _ | exact Kd.S_nil _ _ _ _ _⟩, ⟨by (with_reducible repeat (first | apply Kd.R_alloc | apply Kd.R_drewN | apply Kd.R_drew)); exact Kd.R_mono HO246.out (fun _ hk => (by simp [Value.ownBlock]))⟩, ⟨kb BK241⟩, ⟨kB1 HB GE241⟩⟩
  case round =>
   clear H'
   try clear p2; try clear c4; try clear c4b0; try clear c4b1; try clear c5; try clear c7; try clear hcz7; try clear hcz9
   obtain ⟨x8_1, x22_1, rfl, HA, HK1, HO_8, HO_20, BK241, HB⟩ := hrel
   cases gk with
   | zero => exact absurd HA.out (by simp [thicketref07_kind.l0])
   | succ k1 =>
    have H := HA.out
    clear HA
    simp only [thicketref07_kind.l0] at H
    by_cases c12 : x22_1 < (t244.length : Int)
    ·rw [if_pos c12] at H
     have c12b0 := decide_eq_true c12
     clear c12
     by_cases c13 : 0 ≤ x22_1
     ·rw [if_pos c13] at H
      have c13b0 := decide_eq_true c13
      clear c13
      by_cases c14 : x22_1 < (t244.length : Int)
      ·rw [if_pos c14] at H
       have c14b0 := decide_eq_true c14
       clear c14
       by_cases c15 : 0 ≤ (rd t244 x22_1)
       ·rw [if_pos c15] at H
        have c15b0 := decide_eq_true c15
        clear c15
        by_cases c16 : (rd t244 x22_1) < (l0_1.length : Int)
        ·rw [if_pos c16] at H
         have c16b0 := decide_eq_true c16
         clear c16
         by_cases c17 : ((((rd_T71 l0_1 (rd t244 x22_1)).f0) == 1) == a1) = true
         ·rw [if_pos c17] at H
          have c17b0 : ((((rd_T71 l0_1 (rd t244 x22_1)).f0) == 1) == a1) = true := c17
          (try (have c17b1 : decide ((((rd_T71 l0_1 (rd t244 x22_1)).f0) == 1) = a1) = true := by simpa using c17))
          (try (have c17b2 : ((((rd_T71 l0_1 (rd t244 x22_1)).f0) == 1) == a1) = true := by simpa using c17))
          clear c17
          by_cases c18 : x8_1.length < 17592186044416
          ·rw [if_pos c18] at H
           have LMc18 := aS_ c18
           clear c18
           obtain ⟨y249, hy249⟩ : ∃ y_ : List Int, y_ = (x8_1 ++ [rd t244 x22_1]) := ⟨_, rfl⟩
           (try replace H := bS_ H); rw [← hy249] at H; try dsimp only at H
           have Ny249 := aS_ hy249
           clear hy249
           have H' := aS_ H
           clear H
           have p247 : 0 ≤ (x22_1 : Int) := of_decide_eq_true ka
           have q247 : x22_1 < (t244.length : Int) := of_decide_eq_true ka
           obtain ⟨ad247, e247, hx247_0⟩ := Kd.at_int (Kd.R_reads' HO_20.out).2.2 x22_1 p247 q247
           cases e247
           replace p247 := eq_true p247
           replace q247 := eq_true q247
           have hcz19 := blk2 (w := wr) BK241.out
           have p248 : 0 ≤ ((rd t244 x22_1) : Int) := of_decide_eq_true ka
           have q248 : (rd t244 x22_1) < (l0_1.length : Int) := of_decide_eq_true ka
           obtain ⟨ad248, A248_4, c248_4, e248, hx248_0, hx248_1, hx248_2, hx248_3, hx248_4, hx248_5, hx248_6, hx248_7, hl248_4, hi248_4⟩ := at_T71 HR0_1.out (rd t244 x22_1) p248 q248
           cases e248
           replace hx248_0 := cB_ HB.out hx248_0
           replace hx248_1 := cB_ HB.out hx248_1
           replace hx248_2 := cB_ HB.out hx248_2
           replace hx248_3 := cB_ HB.out hx248_3
           replace hx248_4 := cB_ HB.out hx248_4
           replace hx248_5 := cB_ HB.out hx248_5
           replace hx248_6 := cB_ HB.out hx248_6
           replace hx248_7 := cB_ HB.out hx248_7
           have HR248_4 := aS_ hi248_4
           have HC248_4 := aS_ hl248_4
           clear hi248_4 hl248_4
           replace p248 := eq_true p248
           replace q248 := eq_true q248
           go_wp2_with (first | ((with_reducible refine gate_builtin (b := .append) (xs := #[.tmp 35, .tmp 37]) rfl ?_); at_builtin; refine Kd.R_append (Kd.int .i64) (w0 := w) w.heap.size rfl (.tmp 35) (.tmp 37) 54 3 (.int .i64 0) 8 rfl Try.underlying54 info3 rfl (by decide) (by omega) u8 x8_1 (rd t244 x22_1) [.int .i64 (rd t244 x22_1)] (fun k_ => some k_ ≠ (.slice (some ad247) t244.length co11 : Value).ownBlock) (fun _ => False) rfl rfl ?aP (fun _ hk => hk.elim) ?aF ?aO ?aB ?aS ?aL ?_; (case aP => exact rfl); (case aB => exact (kB1 HB GE241)); (case aF => exact (fun k_ hk => Kd.fresh' (Kd.R_lt (kR HO_20)) k_ hk)); (case aO => exact (kR HO_8)); (case aS => exact (below_size (kB1 HB GE241))); (case aL => have := LMc18.out; omega); intro v250 w20 ho hb hg hat; rw [← Ny249.out] at ho; have n0_ := aS_ (Kd.R_after (ok := (fun _ => True)) (by (with_reducible repeat (first | apply Kd.R_alloc | apply Kd.R_drewN | apply Kd.R_drew)); exact Kd.R_mono HO_20.out (fun _ hk => ⟨trivial, hk⟩)) hg hat); have n1_ := aS_ (blk_grown (g := gb241) (o := .cells #[.int .i64 a0_0, .slice (some ad248) l0_1.length c0_1] 53 (0, 0)) (kb BK241) hg (Kd.R_ne HO_8.out BK241.out (by decide))); have n2_ := aS_ (hb); have n3_ := aS_ (ho); clear HO_20; clear BK241; clear HB; clear HO_8; have HO_20 := n0_; have BK241 := n1_; have HB := n2_; have HO251 := n3_; clear n0_ n1_ n2_ n3_; clear ho hb hg hat))
           go_roundg k1
           case measure => have := HK1.out; omega
           case rel => exact ⟨(y249), (wrap64 (x22_1 + 1)), kr, H', ⟨by have := HK1.out; omega⟩, ⟨kR HO251⟩, ⟨by (with_reducible repeat (first | apply Kd.R_alloc | apply Kd.R_drewN | apply Kd.R_drew)); exact Kd.R_mono HO_20.out (fun _ hk => hk.2)⟩, ⟨kb BK241⟩, ⟨kB1 HB GE241⟩⟩
          ·rw [if_neg c18] at H
           exact absurd H (by simp)
         ·rw [if_neg c17] at H
          have c17b0 : ((((rd_T71 l0_1 (rd t244 x22_1)).f0) == 1) == a1) = false := by simpa using c17
          (try (have c17b1 : decide ((((rd_T71 l0_1 (rd t244 x22_1)).f0) == 1) = a1) = false := by simpa using c17))
          (try (have c17b2 : ((((rd_T71 l0_1 (rd t244 x22_1)).f0) == 1) == a1) = false := by simpa using c17))
          (try (have c17b3 : ¬ ((((rd_T71 l0_1 (rd t244 x22_1)).f0) == 1) = a1) := by simpa using c17))
          clear c17
          have H' := aS_ H
          clear H
          have p247 : 0 ≤ (x22_1 : Int) := of_decide_eq_true ka
          have q247 : x22_1 < (t244.length : Int) := of_decide_eq_true ka
          obtain ⟨ad247, e247, hx247_0⟩ := Kd.at_int (Kd.R_reads' HO_20.out).2.2 x22_1 p247 q247
          cases e247
          replace p247 := eq_true p247
          replace q247 := eq_true q247
          have hcz21 := blk2 (w := wr) BK241.out
          have p248 : 0 ≤ ((rd t244 x22_1) : Int) := of_decide_eq_true ka
          have q248 : (rd t244 x22_1) < (l0_1.length : Int) := of_decide_eq_true ka
          obtain ⟨ad248, A248_4, c248_4, e248, hx248_0, hx248_1, hx248_2, hx248_3, hx248_4, hx248_5, hx248_6, hx248_7, hl248_4, hi248_4⟩ := at_T71 HR0_1.out (rd t244 x22_1) p248 q248
          cases e248
          replace hx248_0 := cB_ HB.out hx248_0
          replace hx248_1 := cB_ HB.out hx248_1
          replace hx248_2 := cB_ HB.out hx248_2
          replace hx248_3 := cB_ HB.out hx248_3
          replace hx248_4 := cB_ HB.out hx248_4
          replace hx248_5 := cB_ HB.out hx248_5
          replace hx248_6 := cB_ HB.out hx248_6
          replace hx248_7 := cB_ HB.out hx248_7
          have HR248_4 := aS_ hi248_4
          have HC248_4 := aS_ hl248_4
          clear hi248_4 hl248_4
          replace p248 := eq_true p248
          replace q248 := eq_true q248
          go_wp2
          go_roundg k1
          case measure => have := HK1.out; omega
          case rel => exact ⟨(x8_1), (wrap64 (x22_1 + 1)), kr, H', ⟨by have := HK1.out; omega⟩, ⟨kR HO_8⟩, ⟨kR HO_20⟩, ⟨kb BK241⟩, ⟨kB1 HB GE241⟩⟩
        ·rw [if_neg c16] at H
         exact absurd H (by simp)
       ·rw [if_neg c15] at H
        exact absurd H (by simp)
      ·rw [if_neg c14] at H
       exact absurd H (by simp)
     ·rw [if_neg c13] at H
      exact absurd H (by simp)
    ·rw [if_neg c12] at H
     have c12b0 := decide_eq_false c12
     clear c12
     simp only [Option.some.injEq, Prod.mk.injEq] at H
     obtain ⟨rfl, rfl⟩ := H
     go_wp2
     go_ret2
     exact ⟨_, by first | rfl | (simp [errW_none, errW_some] <;> rfl) | (simp [*, errW_none, errW_some] <;> rfl), by (with_reducible repeat (first | apply Kd.R_alloc | apply Kd.R_drewN | apply Kd.R_drew)); exact Kd.R_mono HO_8.out (fun _ hk => trivial), kB1 HB GE241⟩
 ·rw [if_neg c4] at H
  have c4b0 := beq_eq_false_iff_ne.mpr c4
  have c4b1 := bne_iff_ne.mpr c4
  simp only [Option.some.injEq, Prod.mk.injEq] at H
  obtain ⟨rfl, rfl⟩ := H
  go_enter Try.func74, Try.ntmps74
  go_wp2_with (first | ((with_reducible refine gate_dst (N := 2) rfl ?_); refine box_event ?hg (N := 2) ?hd (cs := #[.int .i64 a0_0, .slice A0_1 l0_1.length c0_1]) (t := 53) ?hr ?_; (case hd => rfl); (case hg => rfl); (case hr => first | (go_simp; done) | (go_simp; rfl)); intro gb241 hg w22 hbox hb; have n0_ := aS_ (below_step (kB0 HB) hb); have n1_ := aS_ (hbox); have n2_ := aS_ ((kg hg (kB0 HB) : w.heap.size ≤ gb241)); have n3_ := aS_ ((kg hg (kB0 HB) : w.heap.size ≤ gb241)); clear HB; have HB := n0_; have BK241 := n1_; have GW241 := n2_; have GE241 := n3_; clear n0_ n1_ n2_ n3_; clear hb hbox hg; have hcz23 := blk2 (w := w22) BK241.out) | ((with_reducible refine gate_callee (f := 79) rfl ?_); refine goesL_ (some 13) rfl rfl Try.func79 (by kernel_rfl) rfl #[.agg #[.int .i64 a0_0, .slice A0_1 l0_1.length c0_1]] rfl (by (try simp only [List.map_toArray, List.map_cons, List.map_nil]); first | done | rfl | (simp only [List.length_drop, List.length_take]; rfl)) ?_; (with_reducible refine (thicketref07_Shape.calls k a0_0 _ _ l0_1 t242 t243 _ ?side1 ?side2 A3.out).mono ?_); (case side1 => repeat (first | exact (Kd.C_below HR0_1.out HB.out) | (with_reducible refine Kd.C_alloc ?_ _) | (with_reducible refine Kd.C_drewN ?_ _) | (with_reducible refine Kd.C_drew ?_))); (case side2 => exact HC0_1.out); rintro e w24 ⟨rfl, hb⟩; refine ⟨_, rfl, ?_⟩; have n0_ := aS_ (blk_below (g := gb241) (o := .cells #[.int .i64 a0_0, .slice A0_1 l0_1.length c0_1] 53 (0, 0)) (kb BK241) hb); have n1_ := aS_ (below_step (kB1 HB GE241) hb); clear BK241; clear HB; have BK241 := n0_; have HB := n1_; clear n0_ n1_; (try clear hb); (try clear hb2); (try clear hk); (try clear hi)))
  go_ret2
  exact ⟨_, by first | rfl | (simp [errW_none, errW_some] <;> rfl) | (simp [*, errW_none, errW_some] <;> rfl), by first | exact Kd.R_nil _ _ _ _ _ | exact Kd.N_nil _ _ _ _ _ | exact Kd.V_nil _ _ _ _ _ | exact Kd.Q_nil _ _ _ _ _ | exact Kd.S_nil _ _ _ _ _, kB1 HB GE241⟩
/-! ### thicketref07_Leaves: function 65 -/
def thicketref07_Leaves.f (k : Nat) (a0_0 : Int) (l0_1 : List (S71)) : Option (List Int × Int) := (thicketref07_kind.f k a0_0 l0_1 true).bind fun bt253 => (some (bt253.1, bt253.2))
theorem thicketref07_Leaves.mono : ∀ a0 a1 k, LeO (thicketref07_Leaves.f k a0 a1) (thicketref07_Leaves.f (k + 1) a0 a1) := by
 intro a0 a1 k
 unfold thicketref07_Leaves.f
 repeat' first
   | (with_reducible exact thicketref07_kind.mono _ _ _ _)
   | (with_reducible exact LeO.refl _)
   | (with_reducible exact LeO.none _)
   | (with_reducible refine LeO.ite ?_ ?_)
   | (with_reducible refine LeO.bind ?_ (fun _ => ?_))
set_option maxHeartbeats 8000000 in
set_option maxRecDepth 100000 in
theorem thicketref07_Leaves.calls (k : Nat) (a0_0 : Int) (A0_1 : Option Addr) (c0_1 : Nat) (l0_1 : List (S71)) (r1 : List Int) (r2 : Int) (w : World) (hr0_1 : Kd.C k71 w A0_1 l0_1.length l0_1) (hc0_1 : l0_1.length ≤ c0_1) (h : thicketref07_Leaves.f k a0_0 l0_1 = some (r1, r2)) :
  Calls Try.prog 65 #[.agg #[.int .i64 a0_0, .slice A0_1 l0_1.length c0_1]] w fun e w' => ∃ v0_ : Value, e = .returned (.tuple #[v0_, .int .i64 r2]) ∧ Kd.R (Kd.int .i64) 3 w' w.heap.size (fun _ => True) v0_ r1 ∧ Below w.heap.size w w' := by
 have hu53 := Try.underlying53
 have HR0_1 := aS_ hr0_1
 have HC0_1 := aS_ hc0_1
 clear hr0_1 hc0_1
 have HB := aS_ (Below.refl w.heap.size w)
 have H : ((thicketref07_kind.f k a0_0 l0_1 true).bind fun bt253 => (some (bt253.1, bt253.2))) = some (r1, r2) := h
 clear h
 replace H := Option.bind_eq_some_iff.mp H
 obtain ⟨⟨t253, t256⟩, A20, H⟩ := H
 try dsimp only at H
 have A2 := aS_ A20
 clear A20
 simp only [Option.some.injEq, Prod.mk.injEq] at H
 obtain ⟨rfl, rfl⟩ := H
 go_enter Try.func65, Try.ntmps65
 go_wp2_with (first | ((with_reducible refine gate_dst (N := 1) rfl ?_); refine box_event ?hg (N := 1) ?hd (cs := #[.int .i64 a0_0, .slice A0_1 l0_1.length c0_1]) (t := 53) ?hr ?_; (case hd => rfl); (case hg => rfl); (case hr => first | (go_simp; done) | (go_simp; rfl)); intro gb252 hg w3 hbox hb; have n0_ := aS_ (below_step (kB0 HB) hb); have n1_ := aS_ (hbox); have n2_ := aS_ ((kg hg (kB0 HB) : w.heap.size ≤ gb252)); have n3_ := aS_ ((kg hg (kB0 HB) : w.heap.size ≤ gb252)); clear HB; have HB := n0_; have BK252 := n1_; have GW252 := n2_; have GE252 := n3_; clear n0_ n1_ n2_ n3_; clear hb hbox hg; have hcz4 := blk2 (w := w3) BK252.out) | ((with_reducible refine gate_callee (f := 74) rfl ?_); refine goesL_ (some 5) rfl rfl Try.func74 (by kernel_rfl) rfl #[.agg #[.int .i64 a0_0, .slice A0_1 l0_1.length c0_1], .bool true] rfl (by (try simp only [List.map_toArray, List.map_cons, List.map_nil]); first | done | rfl | (simp only [List.length_drop, List.length_take]; rfl)) ?_; (with_reducible refine (thicketref07_kind.calls k a0_0 _ _ l0_1 true t253 t256 _ ?side1 ?side2 A2.out).mono ?_); (case side1 => repeat (first | exact (Kd.C_below HR0_1.out HB.out) | (with_reducible refine Kd.C_alloc ?_ _) | (with_reducible refine Kd.C_drewN ?_ _) | (with_reducible refine Kd.C_drew ?_))); (case side2 => exact HC0_1.out); rintro e w5 ⟨v254, rfl, ho0, hb⟩; refine ⟨_, rfl, ?_⟩; have n0_ := aS_ (Kd.R_lower ho0 (below_size (kB1 HB GE252))); have n1_ := aS_ (blk_below (g := gb252) (o := .cells #[.int .i64 a0_0, .slice A0_1 l0_1.length c0_1] 53 (0, 0)) (kb BK252) hb); have n2_ := aS_ (below_step (kB1 HB GE252) hb); clear BK252; clear HB; have HO255 := n0_; have BK252 := n1_; have HB := n2_; clear n0_ n1_ n2_; (try clear hb); (try clear hb2); (try clear hk); (try clear hi); (try clear ho0)))
 go_ret2
 exact ⟨_, by first | rfl | (simp [errW_none, errW_some] <;> rfl) | (simp [*, errW_none, errW_some] <;> rfl), by (with_reducible repeat (first | apply Kd.R_alloc | apply Kd.R_drewN | apply Kd.R_drew)); exact HO255.out, kB1 HB GE252⟩
/-! ### thicketref13_Count: function 51 -/
def thicketref13_Count.f (k : Nat) (a0_0 : Int) (l0_1 : List (S71)) : Option (Int × Int) := (thicketref07_Leaves.f k a0_0 l0_1).bind fun bt258 => (if bt258.2 = 0 then (if (bt258.1.length : Int) > 4096 then (some (0, 3)) else (some ((bt258.1.length : Int), 0))) else (some (0, bt258.2)))
theorem thicketref13_Count.mono : ∀ a0 a1 k, LeO (thicketref13_Count.f k a0 a1) (thicketref13_Count.f (k + 1) a0 a1) := by
 intro a0 a1 k
 unfold thicketref13_Count.f
 repeat' first
   | (with_reducible exact thicketref07_Leaves.mono _ _ _)
   | (with_reducible exact LeO.refl _)
   | (with_reducible exact LeO.none _)
   | (with_reducible refine LeO.ite ?_ ?_)
   | (with_reducible refine LeO.bind ?_ (fun _ => ?_))
set_option maxHeartbeats 8000000 in
set_option maxRecDepth 100000 in
theorem thicketref13_Count.calls (k : Nat) (a0_0 : Int) (A0_1 : Option Addr) (c0_1 : Nat) (l0_1 : List (S71)) (r1 : Int) (r2 : Int) (w : World) (hr0_1 : Kd.C k71 w A0_1 l0_1.length l0_1) (hc0_1 : l0_1.length ≤ c0_1) (h : thicketref13_Count.f k a0_0 l0_1 = some (r1, r2)) :
  Calls Try.prog 51 #[.agg #[.int .i64 a0_0, .slice A0_1 l0_1.length c0_1]] w fun e w' => e = .returned (.tuple #[.int .i64 r1, .int .i64 r2]) ∧ Below w.heap.size w w' := by
 have hu53 := Try.underlying53
 have HR0_1 := aS_ hr0_1
 have HC0_1 := aS_ hc0_1
 clear hr0_1 hc0_1
 have HB := aS_ (Below.refl w.heap.size w)
 have H : ((thicketref07_Leaves.f k a0_0 l0_1).bind fun bt258 => (if bt258.2 = 0 then (if (bt258.1.length : Int) > 4096 then (some (0, 3)) else (some ((bt258.1.length : Int), 0))) else (some (0, bt258.2)))) = some (r1, r2) := h
 clear h
 replace H := Option.bind_eq_some_iff.mp H
 obtain ⟨⟨t258, t261⟩, A20, H⟩ := H
 try dsimp only at H
 have A2 := aS_ A20
 clear A20
 by_cases c3 : t261 = 0
 ·rw [if_pos c3] at H
  have c3b0 := beq_iff_eq.mpr c3
  have c3b1 := bne_eq_false_iff_eq.mpr c3
  clear c3
  by_cases c4 : (t258.length : Int) > 4096
  ·rw [if_pos c4] at H
   have c4b0 := decide_eq_true c4
   have c4b1 : decide (4096 < t258.length) = true := decide_eq_true (by omega)
   clear c4
   simp only [Option.some.injEq, Prod.mk.injEq] at H
   obtain ⟨rfl, rfl⟩ := H
   go_enter Try.func51, Try.ntmps51
   go_wp2_with (first | ((with_reducible refine gate_dst (N := 1) rfl ?_); refine box_event ?hg (N := 1) ?hd (cs := #[.int .i64 a0_0, .slice A0_1 l0_1.length c0_1]) (t := 53) ?hr ?_; (case hd => rfl); (case hg => rfl); (case hr => first | (go_simp; done) | (go_simp; rfl)); intro gb257 hg w5 hbox hb; have n0_ := aS_ (below_step (kB0 HB) hb); have n1_ := aS_ (hbox); have n2_ := aS_ ((kg hg (kB0 HB) : w.heap.size ≤ gb257)); have n3_ := aS_ ((kg hg (kB0 HB) : w.heap.size ≤ gb257)); clear HB; have HB := n0_; have BK257 := n1_; have GW257 := n2_; have GE257 := n3_; clear n0_ n1_ n2_ n3_; clear hb hbox hg; have hcz6 := blk2 (w := w5) BK257.out) | ((with_reducible refine gate_callee (f := 65) rfl ?_); refine goesL_ (some 8) rfl rfl Try.func65 (by kernel_rfl) rfl #[.agg #[.int .i64 a0_0, .slice A0_1 l0_1.length c0_1]] rfl (by (try simp only [List.map_toArray, List.map_cons, List.map_nil]); first | done | rfl | (simp only [List.length_drop, List.length_take]; rfl)) ?_; (with_reducible refine (thicketref07_Leaves.calls k a0_0 _ _ l0_1 t258 t261 _ ?side1 ?side2 A2.out).mono ?_); (case side1 => repeat (first | exact (Kd.C_below HR0_1.out HB.out) | (with_reducible refine Kd.C_alloc ?_ _) | (with_reducible refine Kd.C_drewN ?_ _) | (with_reducible refine Kd.C_drew ?_))); (case side2 => exact HC0_1.out); rintro e w7 ⟨v259, rfl, ho0, hb⟩; refine ⟨_, rfl, ?_⟩; have n0_ := aS_ (Kd.R_lower ho0 (below_size (kB1 HB GE257))); have n1_ := aS_ (blk_below (g := gb257) (o := .cells #[.int .i64 a0_0, .slice A0_1 l0_1.length c0_1] 53 (0, 0)) (kb BK257) hb); have n2_ := aS_ (below_step (kB1 HB GE257) hb); clear BK257; clear HB; have HO260 := n0_; have BK257 := n1_; have HB := n2_; clear n0_ n1_ n2_; (try clear hb); (try clear hb2); (try clear hk); (try clear hi); (try clear ho0); obtain ⟨Ao8, co8, eo8⟩ := Kd.R_slice HO260.out; subst eo8))
   go_ret2
   exact ⟨by first | rfl | (simp [errW_none, errW_some] <;> rfl) | (simp [*, errW_none, errW_some] <;> rfl), kB1 HB GE257⟩
  ·rw [if_neg c4] at H
   have c4b0 := decide_eq_false c4
   have c4b1 : decide (4096 < t258.length) = false := decide_eq_false (by omega)
   clear c4
   simp only [Option.some.injEq, Prod.mk.injEq] at H
   obtain ⟨rfl, rfl⟩ := H
   go_enter Try.func51, Try.ntmps51
   go_wp2_with (first | ((with_reducible refine gate_dst (N := 1) rfl ?_); refine box_event ?hg (N := 1) ?hd (cs := #[.int .i64 a0_0, .slice A0_1 l0_1.length c0_1]) (t := 53) ?hr ?_; (case hd => rfl); (case hg => rfl); (case hr => first | (go_simp; done) | (go_simp; rfl)); intro gb257 hg w9 hbox hb; have n0_ := aS_ (below_step (kB0 HB) hb); have n1_ := aS_ (hbox); have n2_ := aS_ ((kg hg (kB0 HB) : w.heap.size ≤ gb257)); have n3_ := aS_ ((kg hg (kB0 HB) : w.heap.size ≤ gb257)); clear HB; have HB := n0_; have BK257 := n1_; have GW257 := n2_; have GE257 := n3_; clear n0_ n1_ n2_ n3_; clear hb hbox hg; have hcz10 := blk2 (w := w9) BK257.out) | ((with_reducible refine gate_callee (f := 65) rfl ?_); refine goesL_ (some 8) rfl rfl Try.func65 (by kernel_rfl) rfl #[.agg #[.int .i64 a0_0, .slice A0_1 l0_1.length c0_1]] rfl (by (try simp only [List.map_toArray, List.map_cons, List.map_nil]); first | done | rfl | (simp only [List.length_drop, List.length_take]; rfl)) ?_; (with_reducible refine (thicketref07_Leaves.calls k a0_0 _ _ l0_1 t258 t261 _ ?side1 ?side2 A2.out).mono ?_); (case side1 => repeat (first | exact (Kd.C_below HR0_1.out HB.out) | (with_reducible refine Kd.C_alloc ?_ _) | (with_reducible refine Kd.C_drewN ?_ _) | (with_reducible refine Kd.C_drew ?_))); (case side2 => exact HC0_1.out); rintro e w11 ⟨v259, rfl, ho0, hb⟩; refine ⟨_, rfl, ?_⟩; have n0_ := aS_ (Kd.R_lower ho0 (below_size (kB1 HB GE257))); have n1_ := aS_ (blk_below (g := gb257) (o := .cells #[.int .i64 a0_0, .slice A0_1 l0_1.length c0_1] 53 (0, 0)) (kb BK257) hb); have n2_ := aS_ (below_step (kB1 HB GE257) hb); clear BK257; clear HB; have HO260 := n0_; have BK257 := n1_; have HB := n2_; clear n0_ n1_ n2_; (try clear hb); (try clear hb2); (try clear hk); (try clear hi); (try clear ho0); obtain ⟨Ao12, co12, eo12⟩ := Kd.R_slice HO260.out; subst eo12))
   go_ret2
   exact ⟨by first | rfl | (simp [errW_none, errW_some] <;> rfl) | (simp [*, errW_none, errW_some] <;> rfl), kB1 HB GE257⟩
 ·rw [if_neg c3] at H
  have c3b0 := beq_eq_false_iff_ne.mpr c3
  have c3b1 := bne_iff_ne.mpr c3
  simp only [Option.some.injEq, Prod.mk.injEq] at H
  obtain ⟨rfl, rfl⟩ := H
  go_enter Try.func51, Try.ntmps51
  go_wp2_with (first | ((with_reducible refine gate_dst (N := 1) rfl ?_); refine box_event ?hg (N := 1) ?hd (cs := #[.int .i64 a0_0, .slice A0_1 l0_1.length c0_1]) (t := 53) ?hr ?_; (case hd => rfl); (case hg => rfl); (case hr => first | (go_simp; done) | (go_simp; rfl)); intro gb257 hg w13 hbox hb; have n0_ := aS_ (below_step (kB0 HB) hb); have n1_ := aS_ (hbox); have n2_ := aS_ ((kg hg (kB0 HB) : w.heap.size ≤ gb257)); have n3_ := aS_ ((kg hg (kB0 HB) : w.heap.size ≤ gb257)); clear HB; have HB := n0_; have BK257 := n1_; have GW257 := n2_; have GE257 := n3_; clear n0_ n1_ n2_ n3_; clear hb hbox hg; have hcz14 := blk2 (w := w13) BK257.out) | ((with_reducible refine gate_callee (f := 65) rfl ?_); refine goesL_ (some 8) rfl rfl Try.func65 (by kernel_rfl) rfl #[.agg #[.int .i64 a0_0, .slice A0_1 l0_1.length c0_1]] rfl (by (try simp only [List.map_toArray, List.map_cons, List.map_nil]); first | done | rfl | (simp only [List.length_drop, List.length_take]; rfl)) ?_; (with_reducible refine (thicketref07_Leaves.calls k a0_0 _ _ l0_1 t258 t261 _ ?side1 ?side2 A2.out).mono ?_); (case side1 => repeat (first | exact (Kd.C_below HR0_1.out HB.out) | (with_reducible refine Kd.C_alloc ?_ _) | (with_reducible refine Kd.C_drewN ?_ _) | (with_reducible refine Kd.C_drew ?_))); (case side2 => exact HC0_1.out); rintro e w15 ⟨v259, rfl, ho0, hb⟩; refine ⟨_, rfl, ?_⟩; have n0_ := aS_ (Kd.R_lower ho0 (below_size (kB1 HB GE257))); have n1_ := aS_ (blk_below (g := gb257) (o := .cells #[.int .i64 a0_0, .slice A0_1 l0_1.length c0_1] 53 (0, 0)) (kb BK257) hb); have n2_ := aS_ (below_step (kB1 HB GE257) hb); clear BK257; clear HB; have HO260 := n0_; have BK257 := n1_; have HB := n2_; clear n0_ n1_ n2_; (try clear hb); (try clear hb2); (try clear hk); (try clear hi); (try clear ho0)))
  go_ret2
  exact ⟨by first | rfl | (simp [errW_none, errW_some] <;> rfl) | (simp [*, errW_none, errW_some] <;> rfl), kB1 HB GE257⟩
/-! ### thicketref07_Fits: function 52 -/
def thicketref07_Fits.l0 : Nat → Int → List (S71) → Int → Int → Option (Bool)
 | 0, _, _, _, _ => none
 | k + 1, x1, x8, x9, x10 => if x10 < x9 then (if 0 ≤ x10 then (if x10 < (x8.length : Int) then (if ((rd_T71 x8 x10).f0) = 1 then (thicketref07_Fits.l0 k x1 x8 x9 (wrap64 (x10 + 1))) else (if ((rd_T71 x8 x10).f2) ≥ x1 then (some false) else (thicketref07_Fits.l0 k x1 x8 x9 (wrap64 (x10 + 1))))) else (none)) else (none)) else (some true)
def thicketref07_Fits.f (k : Nat) (a0_0 : Int) (l0_1 : List (S71)) (a1 : Int) : Option (Bool) := thicketref07_Fits.l0 k a1 l0_1 (l0_1.length : Int) 0
theorem thicketref07_Fits.mono_l : ∀ k, (∀ y0 y1 y2 y3, LeO (thicketref07_Fits.l0 k y0 y1 y2 y3) (thicketref07_Fits.l0 (k + 1) y0 y1 y2 y3))
 | 0 => fun _ _ _ _ r h => by simp [thicketref07_Fits.l0] at h
 | k + 1 => by
  have ih0 := thicketref07_Fits.mono_l k
  ·intro y0 y1 y2 y3
   unfold thicketref07_Fits.l0
   repeat' first
   | (with_reducible exact ih0 _ _ _ _)
   | (with_reducible exact LeO.refl _)
   | (with_reducible exact LeO.none _)
   | (with_reducible refine LeO.ite ?_ ?_)
   | (with_reducible refine LeO.bind ?_ (fun _ => ?_))
theorem thicketref07_Fits.mono : ∀ a0 a1 a2 k, LeO (thicketref07_Fits.f k a0 a1 a2) (thicketref07_Fits.f (k + 1) a0 a1 a2) := by
 intro a0 a1 a2 k
 have ih0 := thicketref07_Fits.mono_l k
 unfold thicketref07_Fits.f
 repeat' first
   | (with_reducible exact ih0 _ _ _ _)
   | (with_reducible exact LeO.refl _)
   | (with_reducible exact LeO.none _)
   | (with_reducible refine LeO.ite ?_ ?_)
   | (with_reducible refine LeO.bind ?_ (fun _ => ?_))
set_option maxHeartbeats 8000000 in
set_option maxRecDepth 100000 in
theorem thicketref07_Fits.calls (k : Nat) (a0_0 : Int) (A0_1 : Option Addr) (c0_1 : Nat) (l0_1 : List (S71)) (a1 : Int) (r : Bool) (w : World) (hr0_1 : Kd.C k71 w A0_1 l0_1.length l0_1) (hc0_1 : l0_1.length ≤ c0_1) (h : thicketref07_Fits.f k a0_0 l0_1 a1 = some r) :
  Calls Try.prog 52 #[.agg #[.int .i64 a0_0, .slice A0_1 l0_1.length c0_1], .int .i64 a1] w fun e w' => e = .returned (.bool r) ∧ Below w.heap.size w w' := by
 have hu53 := Try.underlying53
 have hu71 := Try.underlying71
 have HR0_1 := aS_ hr0_1
 have HC0_1 := aS_ hc0_1
 clear hr0_1 hc0_1
 have HB := aS_ (Below.refl w.heap.size w)
 have H : (thicketref07_Fits.l0 k a1 l0_1 (l0_1.length : Int) 0) = some r := h
 clear h
 have H' := aS_ H
 clear H
 go_enter Try.func52, Try.ntmps52
 go_wp2_with (first | ((with_reducible refine gate_dst (N := 2) rfl ?_); refine box_event ?hg (N := 2) ?hd (cs := #[.int .i64 a0_0, .slice A0_1 l0_1.length c0_1]) (t := 53) ?hr ?_; (case hd => rfl); (case hg => rfl); (case hr => first | (go_simp; done) | (go_simp; rfl)); intro gb262 hg w3 hbox hb; have n0_ := aS_ (below_step (kB0 HB) hb); have n1_ := aS_ (hbox); have n2_ := aS_ ((kg hg (kB0 HB) : w.heap.size ≤ gb262)); have n3_ := aS_ ((kg hg (kB0 HB) : w.heap.size ≤ gb262)); clear HB; have HB := n0_; have BK262 := n1_; have GW262 := n2_; have GE262 := n3_; clear n0_ n1_ n2_ n3_; clear hb hbox hg; have hcz4 := blk2 (w := w3) BK262.out))
 go_loopg [10] k (fun kq v10 w' => ∃ (x10_1 : Int), v10 = .int .i64 x10_1 ∧ Aside0 (thicketref07_Fits.l0 kq a1 l0_1 (l0_1.length : Int) x10_1 = some r) ∧ Aside0 (kq ≤ k) ∧ Aside0 (w'.heap[gb262]? = some (.cells #[.int .i64 a0_0, (.slice A0_1 l0_1.length c0_1)] 53 (0, 0))) ∧ Aside0 (Below w.heap.size w w'))
 case atStart => exact ⟨(0), kr, H', ⟨Nat.le_refl _⟩, ⟨kb BK262⟩, ⟨kB1 HB GE262⟩⟩
 case round =>
  clear H'
  try clear p2; try clear hcz4
  obtain ⟨x10_1, rfl, HA, HK1, BK262, HB⟩ := hrel
  cases gk with
  | zero => exact absurd HA.out (by simp [thicketref07_Fits.l0])
  | succ k1 =>
   have H := HA.out
   clear HA
   simp only [thicketref07_Fits.l0] at H
   by_cases c5 : x10_1 < (l0_1.length : Int)
   ·rw [if_pos c5] at H
    have c5b0 := decide_eq_true c5
    clear c5
    by_cases c6 : 0 ≤ x10_1
    ·rw [if_pos c6] at H
     have c6b0 := decide_eq_true c6
     clear c6
     by_cases c7 : x10_1 < (l0_1.length : Int)
     ·rw [if_pos c7] at H
      have c7b0 := decide_eq_true c7
      clear c7
      by_cases c8 : ((rd_T71 l0_1 x10_1).f0) = 1
      ·rw [if_pos c8] at H
       have c8b0 := beq_iff_eq.mpr c8
       have c8b1 := bne_eq_false_iff_eq.mpr c8
       clear c8
       have H' := aS_ H
       clear H
       have p263 : 0 ≤ (x10_1 : Int) := of_decide_eq_true ka
       have q263 : x10_1 < (l0_1.length : Int) := of_decide_eq_true ka
       obtain ⟨ad263, A263_4, c263_4, e263, hx263_0, hx263_1, hx263_2, hx263_3, hx263_4, hx263_5, hx263_6, hx263_7, hl263_4, hi263_4⟩ := at_T71 HR0_1.out x10_1 p263 q263
       cases e263
       replace hx263_0 := cB_ HB.out hx263_0
       replace hx263_1 := cB_ HB.out hx263_1
       replace hx263_2 := cB_ HB.out hx263_2
       replace hx263_3 := cB_ HB.out hx263_3
       replace hx263_4 := cB_ HB.out hx263_4
       replace hx263_5 := cB_ HB.out hx263_5
       replace hx263_6 := cB_ HB.out hx263_6
       replace hx263_7 := cB_ HB.out hx263_7
       have HR263_4 := aS_ hi263_4
       have HC263_4 := aS_ hl263_4
       clear hi263_4 hl263_4
       replace p263 := eq_true p263
       replace q263 := eq_true q263
       go_wp2_with (first | ((with_reducible refine gate_dst (N := 6) rfl ?_); refine box_event ?hg (N := 6) ?hd (cs := #[.int .u8 0, .int .i64 0, .int .i64 0, .float .f64 0, .slice none 0 0, .int .u8 0, .int .i64 0, .int .i64 0]) (t := 71) ?hr ?_; (case hd => rfl); (case hg => rfl); (case hr => first | (go_simp; done) | (go_simp; rfl)); intro gb264 hg w9 hbox hb; have n0_ := aS_ (blk_below (g := gb262) (o := .cells #[.int .i64 a0_0, .slice (some ad263) l0_1.length c0_1] 53 (0, 0)) (kb BK262) hb); have n1_ := aS_ (below_step (kB1 HB GE262) hb); have n2_ := aS_ (hbox); have n3_ := aS_ ((kg hg (kB1 HB GE262) : w.heap.size ≤ gb264)); have n4_ := aS_ ((kg hg (kB1 HB GE262) : w.heap.size ≤ gb264)); have n5_ := aS_ ((by rw [hg]; exact Nat.ne_of_lt (blk_lt (g := gb262) (o := .cells #[.int .i64 a0_0, .slice (some ad263) l0_1.length c0_1] 53 (0, 0)) (kb BK262)) : gb262 ≠ gb264)); have n6_ := aS_ ((by rw [hg]; exact Nat.ne_of_gt (blk_lt (g := gb262) (o := .cells #[.int .i64 a0_0, .slice (some ad263) l0_1.length c0_1] 53 (0, 0)) (kb BK262)) : gb264 ≠ gb262)); clear BK262; clear HB; have BK262 := n0_; have HB := n1_; have BK264 := n2_; have GW264 := n3_; have GE264 := n4_; have NB262_264 := n5_; have NB264_262 := n6_; clear n0_ n1_ n2_ n3_ n4_ n5_ n6_; clear hb hbox hg; have hnb10 := NB264_262.out; have hnc10 := NB262_264.out; have hcz11 := blk8 (w := w9) BK264.out))
       go_roundg k1
       case measure => have := HK1.out; omega
       case rel => exact ⟨(wrap64 (x10_1 + 1)), kr, H', ⟨by have := HK1.out; omega⟩, ⟨by (with_reducible repeat (first | refine blk_drewN ?_ _ | refine blk_drew ?_ | refine blk_alloc ?_ _)); refine blk_far8 ?_ NB262_264.out _ _ _ _ _ _ _ _; (with_reducible repeat (first | refine blk_drewN ?_ _ | refine blk_drew ?_ | refine blk_alloc ?_ _)); exact BK262.out⟩, ⟨kB2 HB GE262 GE264⟩⟩
      ·rw [if_neg c8] at H
       have c8b0 := beq_eq_false_iff_ne.mpr c8
       have c8b1 := bne_iff_ne.mpr c8
       by_cases c12 : ((rd_T71 l0_1 x10_1).f2) ≥ a1
       ·rw [if_pos c12] at H
        have c12b0 := decide_eq_true c12
        clear c12
        obtain rfl := Option.some.inj H
        have p263 : 0 ≤ (x10_1 : Int) := of_decide_eq_true ka
        have q263 : x10_1 < (l0_1.length : Int) := of_decide_eq_true ka
        obtain ⟨ad263, A263_4, c263_4, e263, hx263_0, hx263_1, hx263_2, hx263_3, hx263_4, hx263_5, hx263_6, hx263_7, hl263_4, hi263_4⟩ := at_T71 HR0_1.out x10_1 p263 q263
        cases e263
        replace hx263_0 := cB_ HB.out hx263_0
        replace hx263_1 := cB_ HB.out hx263_1
        replace hx263_2 := cB_ HB.out hx263_2
        replace hx263_3 := cB_ HB.out hx263_3
        replace hx263_4 := cB_ HB.out hx263_4
        replace hx263_5 := cB_ HB.out hx263_5
        replace hx263_6 := cB_ HB.out hx263_6
        replace hx263_7 := cB_ HB.out hx263_7
        have HR263_4 := aS_ hi263_4
        have HC263_4 := aS_ hl263_4
        clear hi263_4 hl263_4
        replace p263 := eq_true p263
        replace q263 := eq_true q263
        go_wp2_with (first | ((with_reducible refine gate_dst (N := 6) rfl ?_); refine box_event ?hg (N := 6) ?hd (cs := #[.int .u8 0, .int .i64 0, .int .i64 0, .float .f64 0, .slice none 0 0, .int .u8 0, .int .i64 0, .int .i64 0]) (t := 71) ?hr ?_; (case hd => rfl); (case hg => rfl); (case hr => first | (go_simp; done) | (go_simp; rfl)); intro gb264 hg w13 hbox hb; have n0_ := aS_ (blk_below (g := gb262) (o := .cells #[.int .i64 a0_0, .slice (some ad263) l0_1.length c0_1] 53 (0, 0)) (kb BK262) hb); have n1_ := aS_ (below_step (kB1 HB GE262) hb); have n2_ := aS_ (hbox); have n3_ := aS_ ((kg hg (kB1 HB GE262) : w.heap.size ≤ gb264)); have n4_ := aS_ ((kg hg (kB1 HB GE262) : w.heap.size ≤ gb264)); have n5_ := aS_ ((by rw [hg]; exact Nat.ne_of_lt (blk_lt (g := gb262) (o := .cells #[.int .i64 a0_0, .slice (some ad263) l0_1.length c0_1] 53 (0, 0)) (kb BK262)) : gb262 ≠ gb264)); have n6_ := aS_ ((by rw [hg]; exact Nat.ne_of_gt (blk_lt (g := gb262) (o := .cells #[.int .i64 a0_0, .slice (some ad263) l0_1.length c0_1] 53 (0, 0)) (kb BK262)) : gb264 ≠ gb262)); clear BK262; clear HB; have BK262 := n0_; have HB := n1_; have BK264 := n2_; have GW264 := n3_; have GE264 := n4_; have NB262_264 := n5_; have NB264_262 := n6_; clear n0_ n1_ n2_ n3_ n4_ n5_ n6_; clear hb hbox hg; have hnb14 := NB264_262.out; have hnc14 := NB262_264.out; have hcz15 := blk8 (w := w13) BK264.out))
        go_ret
        exact ⟨by first | rfl | (simp [errW_none, errW_some] <;> rfl) | (simp [*, errW_none, errW_some] <;> rfl), kB2 HB GE262 GE264⟩
       ·rw [if_neg c12] at H
        have c12b0 := decide_eq_false c12
        clear c12
        have H' := aS_ H
        clear H
        have p263 : 0 ≤ (x10_1 : Int) := of_decide_eq_true ka
        have q263 : x10_1 < (l0_1.length : Int) := of_decide_eq_true ka
        obtain ⟨ad263, A263_4, c263_4, e263, hx263_0, hx263_1, hx263_2, hx263_3, hx263_4, hx263_5, hx263_6, hx263_7, hl263_4, hi263_4⟩ := at_T71 HR0_1.out x10_1 p263 q263
        cases e263
        replace hx263_0 := cB_ HB.out hx263_0
        replace hx263_1 := cB_ HB.out hx263_1
        replace hx263_2 := cB_ HB.out hx263_2
        replace hx263_3 := cB_ HB.out hx263_3
        replace hx263_4 := cB_ HB.out hx263_4
        replace hx263_5 := cB_ HB.out hx263_5
        replace hx263_6 := cB_ HB.out hx263_6
        replace hx263_7 := cB_ HB.out hx263_7
        have HR263_4 := aS_ hi263_4
        have HC263_4 := aS_ hl263_4
        clear hi263_4 hl263_4
        replace p263 := eq_true p263
        replace q263 := eq_true q263
        go_wp2_with (first | ((with_reducible refine gate_dst (N := 6) rfl ?_); refine box_event ?hg (N := 6) ?hd (cs := #[.int .u8 0, .int .i64 0, .int .i64 0, .float .f64 0, .slice none 0 0, .int .u8 0, .int .i64 0, .int .i64 0]) (t := 71) ?hr ?_; (case hd => rfl); (case hg => rfl); (case hr => first | (go_simp; done) | (go_simp; rfl)); intro gb264 hg w16 hbox hb; have n0_ := aS_ (blk_below (g := gb262) (o := .cells #[.int .i64 a0_0, .slice (some ad263) l0_1.length c0_1] 53 (0, 0)) (kb BK262) hb); have n1_ := aS_ (below_step (kB1 HB GE262) hb); have n2_ := aS_ (hbox); have n3_ := aS_ ((kg hg (kB1 HB GE262) : w.heap.size ≤ gb264)); have n4_ := aS_ ((kg hg (kB1 HB GE262) : w.heap.size ≤ gb264)); have n5_ := aS_ ((by rw [hg]; exact Nat.ne_of_lt (blk_lt (g := gb262) (o := .cells #[.int .i64 a0_0, .slice (some ad263) l0_1.length c0_1] 53 (0, 0)) (kb BK262)) : gb262 ≠ gb264)); have n6_ := aS_ ((by rw [hg]; exact Nat.ne_of_gt (blk_lt (g := gb262) (o := .cells #[.int .i64 a0_0, .slice (some ad263) l0_1.length c0_1] 53 (0, 0)) (kb BK262)) : gb264 ≠ gb262)); clear BK262; clear HB; have BK262 := n0_; have HB := n1_; have BK264 := n2_; have GW264 := n3_; have GE264 := n4_; have NB262_264 := n5_; have NB264_262 := n6_; clear n0_ n1_ n2_ n3_ n4_ n5_ n6_; clear hb hbox hg; have hnb17 := NB264_262.out; have hnc17 := NB262_264.out; have hcz18 := blk8 (w := w16) BK264.out))
        go_roundg k1
        case measure => have := HK1.out; omega
        case rel => exact ⟨(wrap64 (x10_1 + 1)), kr, H', ⟨by have := HK1.out; omega⟩, ⟨by (with_reducible repeat (first | refine blk_drewN ?_ _ | refine blk_drew ?_ | refine blk_alloc ?_ _)); refine blk_far8 ?_ NB262_264.out _ _ _ _ _ _ _ _; (with_reducible repeat (first | refine blk_drewN ?_ _ | refine blk_drew ?_ | refine blk_alloc ?_ _)); exact BK262.out⟩, ⟨kB2 HB GE262 GE264⟩⟩
     ·rw [if_neg c7] at H
      exact absurd H (by simp)
    ·rw [if_neg c6] at H
     exact absurd H (by simp)
   ·rw [if_neg c5] at H
    have c5b0 := decide_eq_false c5
    clear c5
    obtain rfl := Option.some.inj H
    go_wp2
    go_ret
    exact ⟨by first | rfl | (simp [errW_none, errW_some] <;> rfl) | (simp [*, errW_none, errW_some] <;> rfl), kB1 HB GE262⟩
/-! ### thicketref14_Error: function 30 -/
mutual
def thicketref14_Error.j0 : Nat → List (S53) → Int → Bool → Option (Int)
 | 0, _, _, _ => none
 | k + 1, x0, x1, x13 => if x13 = true then (some 2) else (if (x0.length : Int) > 65536 then (some 3) else (thicketref14_Error.l0 k x0 x1 0))
def thicketref14_Error.l0 : Nat → List (S53) → Int → Int → Option (Int)
 | 0, _, _, _ => none
 | k + 1, x0, x1, x5 => if x5 < (x0.length : Int) then (if 0 ≤ x5 then ((thicketref13_Count.f k ((rd_T53 x0 x5).f0) ((rd_T53 x0 x5).f1)).bind fun bt266 => (if bt266.2 = 0 then ((thicketref07_Fits.f k ((rd_T53 x0 x5).f0) ((rd_T53 x0 x5).f1) x1).bind fun t269 => (if t269 = true then (thicketref14_Error.l0 k x0 x1 (wrap64 (x5 + 1))) else (some 72))) else (some bt266.2))) else (none)) else (some 0)
end
def thicketref14_Error.f (k : Nat) (l0 : List (S53)) (a1 : Int) : Option (Int) := if a1 < 0 then (thicketref14_Error.j0 k l0 a1 true) else (thicketref14_Error.j0 k l0 a1 (decide (a1 > 65536)))
theorem thicketref14_Error.mono_l : ∀ k, (∀ y0 y1 y2, LeO (thicketref14_Error.j0 k y0 y1 y2) (thicketref14_Error.j0 (k + 1) y0 y1 y2)) ∧ (∀ y0 y1 y2, LeO (thicketref14_Error.l0 k y0 y1 y2) (thicketref14_Error.l0 (k + 1) y0 y1 y2))
 | 0 => ⟨fun _ _ _ r h => by simp [thicketref14_Error.j0] at h, fun _ _ _ r h => by simp [thicketref14_Error.l0] at h⟩
 | k + 1 => by
  obtain ⟨ih0, ih1⟩ := thicketref14_Error.mono_l k
  refine ⟨?_, ?_⟩
  ·intro y0 y1 y2
   unfold thicketref14_Error.j0
   repeat' first
   | (with_reducible exact ih0 _ _ _)
   | (with_reducible exact ih1 _ _ _)
   | (with_reducible exact thicketref07_Fits.mono _ _ _ _)
   | (with_reducible exact thicketref13_Count.mono _ _ _)
   | (with_reducible exact LeO.refl _)
   | (with_reducible exact LeO.none _)
   | (with_reducible refine LeO.ite ?_ ?_)
   | (with_reducible refine LeO.bind ?_ (fun _ => ?_))
  ·intro y0 y1 y2
   unfold thicketref14_Error.l0
   repeat' first
   | (with_reducible exact ih0 _ _ _)
   | (with_reducible exact ih1 _ _ _)
   | (with_reducible exact thicketref07_Fits.mono _ _ _ _)
   | (with_reducible exact thicketref13_Count.mono _ _ _)
   | (with_reducible exact LeO.refl _)
   | (with_reducible exact LeO.none _)
   | (with_reducible refine LeO.ite ?_ ?_)
   | (with_reducible refine LeO.bind ?_ (fun _ => ?_))
theorem thicketref14_Error.mono : ∀ a0 a1 k, LeO (thicketref14_Error.f k a0 a1) (thicketref14_Error.f (k + 1) a0 a1) := by
 intro a0 a1 k
 obtain ⟨ih0, ih1⟩ := thicketref14_Error.mono_l k
 unfold thicketref14_Error.f
 repeat' first
   | (with_reducible exact ih0 _ _ _)
   | (with_reducible exact ih1 _ _ _)
   | (with_reducible exact thicketref07_Fits.mono _ _ _ _)
   | (with_reducible exact thicketref13_Count.mono _ _ _)
   | (with_reducible exact LeO.refl _)
   | (with_reducible exact LeO.none _)
   | (with_reducible refine LeO.ite ?_ ?_)
   | (with_reducible refine LeO.bind ?_ (fun _ => ?_))
set_option maxHeartbeats 8000000 in
set_option maxRecDepth 100000 in
theorem thicketref14_Error.calls (k : Nat) (A0 : Option Addr) (c0 : Nat) (l0 : List (S53)) (a1 : Int) (r : Int) (w : World) (hr0 : Kd.C k53 w A0 l0.length l0) (hc0 : l0.length ≤ c0) (h : thicketref14_Error.f k l0 a1 = some r) :
  Calls Try.prog 30 #[.slice A0 l0.length c0, .int .i64 a1] w fun e w' => e = .returned (.int .i64 r) ∧ Below w.heap.size w w' := by
 have hu53 := Try.underlying53
 have HR0 := aS_ hr0
 have HC0 := aS_ hc0
 clear hr0 hc0
 have HB := aS_ (Below.refl w.heap.size w)
 have H : (if a1 < 0 then (thicketref14_Error.j0 k l0 a1 true) else (thicketref14_Error.j0 k l0 a1 (decide (a1 > 65536)))) = some r := h
 clear h
 have HC3 := aS_ H
 clear H
 go_enter Try.func30, Try.ntmps30
 go_upto_region 1 with (fail)
 go_cut [13] (fun v13 wc => ∃ (kq : Nat) (x13_2 : Bool), v13 = .bool x13_2 ∧ Aside0 (thicketref14_Error.j0 kq l0 a1 x13_2 = some r) ∧ Aside0 (kq ≤ k) ∧ Aside0 (Below w.heap.size w wc))
 case first =>
  have H := HC3.out
  clear HC3
  by_cases c4 : a1 < 0
  ·rw [if_pos c4] at H
   have c4b0 := decide_eq_true c4
   clear c4
   (first | rw [c4b0] | (simp only [i64_w, i32_w]; rw [c4b0]) | skip)
   have H' := aS_ H
   clear H
   go_wp2
   go_meet
   case rel => exact ⟨_, (true), kr, H', ⟨ko⟩, ⟨kB0 HB⟩⟩
  ·rw [if_neg c4] at H
   have c4b0 := decide_eq_false c4
   clear c4
   (first | rw [c4b0] | (simp only [i64_w, i32_w]; rw [c4b0]) | skip)
   have H' := aS_ H
   clear H
   go_wp2
   go_meet
   case rel => exact ⟨_, (decide (a1 > 65536)), kr, H', ⟨ko⟩, ⟨kB0 HB⟩⟩
 case rest =>
  clear HC3
  try clear p2; try clear c3; try clear c4; try clear c4b0
  obtain ⟨kq, x13_2, rfl, HA, HJ2, HB⟩ := hcut
  cases kq with
  | zero => exact absurd HA.out (by simp [thicketref14_Error.j0])
  | succ kj2 =>
   have H := HA.out
   clear HA
   simp only [thicketref14_Error.j0] at H
   by_cases c5 : x13_2 = true
   ·subst c5
    rw [if_pos rfl] at H
    obtain rfl := Option.some.inj H
    go_wp2
    go_ret
    exact ⟨by first | rfl | (simp [errW_none, errW_some] <;> rfl) | (simp [*, errW_none, errW_some] <;> rfl), kB0 HB⟩
   ·replace c5 := Bool.eq_false_iff.mpr c5
    subst c5
    rw [if_neg (show ¬ (false = true) by decide)] at H
    by_cases c6 : (l0.length : Int) > 65536
    ·rw [if_pos c6] at H
     have c6b0 := decide_eq_true c6
     have c6b1 : decide (65536 < l0.length) = true := decide_eq_true (by omega)
     clear c6
     obtain rfl := Option.some.inj H
     go_wp2
     go_ret
     exact ⟨by first | rfl | (simp [errW_none, errW_some] <;> rfl) | (simp [*, errW_none, errW_some] <;> rfl), kB0 HB⟩
    ·rw [if_neg c6] at H
     have c6b0 := decide_eq_false c6
     have c6b1 : decide (65536 < l0.length) = false := decide_eq_false (by omega)
     clear c6
     have H' := aS_ H
     clear H
     go_wp2
     go_loopg [5] kj2 (fun kq v5 w' => ∃ (x5_2 : Int), v5 = .int .i64 x5_2 ∧ Aside0 (thicketref14_Error.l0 kq l0 a1 x5_2 = some r) ∧ Aside0 (kq ≤ kj2) ∧ Aside0 (Below w.heap.size w w'))
     case atStart => exact ⟨(0), kr, H', ⟨Nat.le_refl _⟩, ⟨kB0 HB⟩⟩
     case round =>
      clear H'
      try clear p2; try clear c3; try clear c4; try clear c4b0; try clear c5; try clear c6; try clear c6b0; try clear c6b1
      obtain ⟨x5_2, rfl, HA, HK2, HB⟩ := hrel
      cases gk with
      | zero => exact absurd HA.out (by simp [thicketref14_Error.l0])
      | succ k2 =>
       have H := HA.out
       clear HA
       simp only [thicketref14_Error.l0] at H
       by_cases c7 : x5_2 < (l0.length : Int)
       ·rw [if_pos c7] at H
        have c7b0 := decide_eq_true c7
        clear c7
        by_cases c8 : 0 ≤ x5_2
        ·rw [if_pos c8] at H
         have c8b0 := decide_eq_true c8
         clear c8
         replace H := Option.bind_eq_some_iff.mp H
         obtain ⟨⟨t266, t267⟩, A90, H⟩ := H
         try dsimp only at H
         have A9 := aS_ A90
         clear A90
         by_cases c10 : t267 = 0
         ·rw [if_pos c10] at H
          have c10b0 := beq_iff_eq.mpr c10
          have c10b1 := bne_eq_false_iff_eq.mpr c10
          clear c10
          replace H := Option.bind_eq_some_iff.mp H
          obtain ⟨t269, A110, H⟩ := H
          try dsimp only at H
          have A11 := aS_ A110
          clear A110
          by_cases c12 : t269 = true
          ·subst c12
           rw [if_pos rfl] at H
           have H' := aS_ H
           clear H
           have p265 : 0 ≤ (x5_2 : Int) := of_decide_eq_true ka
           have q265 : x5_2 < (l0.length : Int) := of_decide_eq_true ka
           obtain ⟨ad265, A265_1, c265_1, e265, hx265_0, hx265_1, hl265_1, hi265_1⟩ := at_T53 HR0.out x5_2 p265 q265
           cases e265
           replace hx265_0 := cB_ HB.out hx265_0
           replace hx265_1 := cB_ HB.out hx265_1
           have HR265_1 := aS_ hi265_1
           have HC265_1 := aS_ hl265_1
           clear hi265_1 hl265_1
           replace p265 := eq_true p265
           replace q265 := eq_true q265
           go_wp2_with (first | ((with_reducible refine gate_callee (f := 51) rfl ?_); refine goesL_ (some 28) rfl rfl Try.func51 (by kernel_rfl) rfl #[.agg #[.int .i64 ((rd_T53 l0 x5_2).f0), .slice A265_1 ((rd_T53 l0 x5_2).f1).length c265_1]] rfl (by (try simp only [List.map_toArray, List.map_cons, List.map_nil]); first | done | rfl | (simp only [List.length_drop, List.length_take]; rfl)) ?_; (with_reducible refine (thicketref13_Count.calls k2 ((rd_T53 l0 x5_2).f0) _ _ ((rd_T53 l0 x5_2).f1) t266 t267 _ ?side1 ?side2 A9.out).mono ?_); (case side1 => repeat (first | exact (Kd.C_below HR265_1.out HB.out) | (with_reducible refine Kd.C_alloc ?_ _) | (with_reducible refine Kd.C_drewN ?_ _) | (with_reducible refine Kd.C_drew ?_))); (case side2 => exact HC265_1.out); rintro e w13 ⟨rfl, hb⟩; refine ⟨_, rfl, ?_⟩; have n0_ := aS_ (below_step (kB0 HB) hb); clear HB; have HB := n0_; clear n0_; (try clear hb); (try clear hb2); (try clear hk); (try clear hi); have p268 : 0 ≤ (x5_2 : Int) := of_decide_eq_true ka; have q268 : x5_2 < (l0.length : Int) := of_decide_eq_true ka; obtain ⟨ad268, A268_1, c268_1, e268, hx268_0, hx268_1, hl268_1, hi268_1⟩ := at_T53 HR0.out x5_2 p268 q268; obtain rfl : ad265 = ad268 := (by injection e268); replace hx268_0 := cB_ HB.out hx268_0; replace hx268_1 := cB_ HB.out hx268_1; have HR268_1 := aS_ hi268_1; have HC268_1 := aS_ hl268_1; clear hi268_1 hl268_1; replace p268 := eq_true p268; replace q268 := eq_true q268) | ((with_reducible refine gate_callee (f := 52) rfl ?_); refine goesL_ (some 39) rfl rfl Try.func52 (by kernel_rfl) rfl #[.agg #[.int .i64 ((rd_T53 l0 x5_2).f0), .slice A268_1 ((rd_T53 l0 x5_2).f1).length c268_1], .int .i64 a1] rfl (by (try simp only [List.map_toArray, List.map_cons, List.map_nil]); first | done | rfl | (simp only [List.length_drop, List.length_take]; rfl)) ?_; (with_reducible refine (thicketref07_Fits.calls k2 ((rd_T53 l0 x5_2).f0) _ _ ((rd_T53 l0 x5_2).f1) a1 true _ ?side1 ?side2 A11.out).mono ?_); (case side1 => repeat (first | exact (Kd.C_below HR268_1.out HB.out) | (with_reducible refine Kd.C_alloc ?_ _) | (with_reducible refine Kd.C_drewN ?_ _) | (with_reducible refine Kd.C_drew ?_))); (case side2 => exact HC268_1.out); rintro e w14 ⟨rfl, hb⟩; refine ⟨_, rfl, ?_⟩; have n0_ := aS_ (below_step (kB0 HB) hb); clear HB; have HB := n0_; clear n0_; (try clear hb); (try clear hb2); (try clear hk); (try clear hi)))
           go_roundg k2
           case measure => have := HJ2.out; have := HK2.out; omega
           case rel => exact ⟨(wrap64 (x5_2 + 1)), kr, H', ⟨by have := HJ2.out; have := HK2.out; omega⟩, ⟨kB0 HB⟩⟩
          ·replace c12 := Bool.eq_false_iff.mpr c12
           subst c12
           rw [if_neg (show ¬ (false = true) by decide)] at H
           obtain rfl := Option.some.inj H
           have p265 : 0 ≤ (x5_2 : Int) := of_decide_eq_true ka
           have q265 : x5_2 < (l0.length : Int) := of_decide_eq_true ka
           obtain ⟨ad265, A265_1, c265_1, e265, hx265_0, hx265_1, hl265_1, hi265_1⟩ := at_T53 HR0.out x5_2 p265 q265
           cases e265
           replace hx265_0 := cB_ HB.out hx265_0
           replace hx265_1 := cB_ HB.out hx265_1
           have HR265_1 := aS_ hi265_1
           have HC265_1 := aS_ hl265_1
           clear hi265_1 hl265_1
           replace p265 := eq_true p265
           replace q265 := eq_true q265
           go_wp2_with (first | ((with_reducible refine gate_callee (f := 51) rfl ?_); refine goesL_ (some 28) rfl rfl Try.func51 (by kernel_rfl) rfl #[.agg #[.int .i64 ((rd_T53 l0 x5_2).f0), .slice A265_1 ((rd_T53 l0 x5_2).f1).length c265_1]] rfl (by (try simp only [List.map_toArray, List.map_cons, List.map_nil]); first | done | rfl | (simp only [List.length_drop, List.length_take]; rfl)) ?_; (with_reducible refine (thicketref13_Count.calls k2 ((rd_T53 l0 x5_2).f0) _ _ ((rd_T53 l0 x5_2).f1) t266 t267 _ ?side1 ?side2 A9.out).mono ?_); (case side1 => repeat (first | exact (Kd.C_below HR265_1.out HB.out) | (with_reducible refine Kd.C_alloc ?_ _) | (with_reducible refine Kd.C_drewN ?_ _) | (with_reducible refine Kd.C_drew ?_))); (case side2 => exact HC265_1.out); rintro e w15 ⟨rfl, hb⟩; refine ⟨_, rfl, ?_⟩; have n0_ := aS_ (below_step (kB0 HB) hb); clear HB; have HB := n0_; clear n0_; (try clear hb); (try clear hb2); (try clear hk); (try clear hi); have p268 : 0 ≤ (x5_2 : Int) := of_decide_eq_true ka; have q268 : x5_2 < (l0.length : Int) := of_decide_eq_true ka; obtain ⟨ad268, A268_1, c268_1, e268, hx268_0, hx268_1, hl268_1, hi268_1⟩ := at_T53 HR0.out x5_2 p268 q268; obtain rfl : ad265 = ad268 := (by injection e268); replace hx268_0 := cB_ HB.out hx268_0; replace hx268_1 := cB_ HB.out hx268_1; have HR268_1 := aS_ hi268_1; have HC268_1 := aS_ hl268_1; clear hi268_1 hl268_1; replace p268 := eq_true p268; replace q268 := eq_true q268) | ((with_reducible refine gate_callee (f := 52) rfl ?_); refine goesL_ (some 39) rfl rfl Try.func52 (by kernel_rfl) rfl #[.agg #[.int .i64 ((rd_T53 l0 x5_2).f0), .slice A268_1 ((rd_T53 l0 x5_2).f1).length c268_1], .int .i64 a1] rfl (by (try simp only [List.map_toArray, List.map_cons, List.map_nil]); first | done | rfl | (simp only [List.length_drop, List.length_take]; rfl)) ?_; (with_reducible refine (thicketref07_Fits.calls k2 ((rd_T53 l0 x5_2).f0) _ _ ((rd_T53 l0 x5_2).f1) a1 false _ ?side1 ?side2 A11.out).mono ?_); (case side1 => repeat (first | exact (Kd.C_below HR268_1.out HB.out) | (with_reducible refine Kd.C_alloc ?_ _) | (with_reducible refine Kd.C_drewN ?_ _) | (with_reducible refine Kd.C_drew ?_))); (case side2 => exact HC268_1.out); rintro e w16 ⟨rfl, hb⟩; refine ⟨_, rfl, ?_⟩; have n0_ := aS_ (below_step (kB0 HB) hb); clear HB; have HB := n0_; clear n0_; (try clear hb); (try clear hb2); (try clear hk); (try clear hi)))
           go_ret
           exact ⟨by first | rfl | (simp [errW_none, errW_some] <;> rfl) | (simp [*, errW_none, errW_some] <;> rfl), kB0 HB⟩
         ·rw [if_neg c10] at H
          have c10b0 := beq_eq_false_iff_ne.mpr c10
          have c10b1 := bne_iff_ne.mpr c10
          obtain rfl := Option.some.inj H
          have p265 : 0 ≤ (x5_2 : Int) := of_decide_eq_true ka
          have q265 : x5_2 < (l0.length : Int) := of_decide_eq_true ka
          obtain ⟨ad265, A265_1, c265_1, e265, hx265_0, hx265_1, hl265_1, hi265_1⟩ := at_T53 HR0.out x5_2 p265 q265
          cases e265
          replace hx265_0 := cB_ HB.out hx265_0
          replace hx265_1 := cB_ HB.out hx265_1
          have HR265_1 := aS_ hi265_1
          have HC265_1 := aS_ hl265_1
          clear hi265_1 hl265_1
          replace p265 := eq_true p265
          replace q265 := eq_true q265
          go_wp2_with (first | ((with_reducible refine gate_callee (f := 51) rfl ?_); refine goesL_ (some 28) rfl rfl Try.func51 (by kernel_rfl) rfl #[.agg #[.int .i64 ((rd_T53 l0 x5_2).f0), .slice A265_1 ((rd_T53 l0 x5_2).f1).length c265_1]] rfl (by (try simp only [List.map_toArray, List.map_cons, List.map_nil]); first | done | rfl | (simp only [List.length_drop, List.length_take]; rfl)) ?_; (with_reducible refine (thicketref13_Count.calls k2 ((rd_T53 l0 x5_2).f0) _ _ ((rd_T53 l0 x5_2).f1) t266 t267 _ ?side1 ?side2 A9.out).mono ?_); (case side1 => repeat (first | exact (Kd.C_below HR265_1.out HB.out) | (with_reducible refine Kd.C_alloc ?_ _) | (with_reducible refine Kd.C_drewN ?_ _) | (with_reducible refine Kd.C_drew ?_))); (case side2 => exact HC265_1.out); rintro e w17 ⟨rfl, hb⟩; refine ⟨_, rfl, ?_⟩; have n0_ := aS_ (below_step (kB0 HB) hb); clear HB; have HB := n0_; clear n0_; (try clear hb); (try clear hb2); (try clear hk); (try clear hi)))
          go_ret
          exact ⟨by first | rfl | (simp [errW_none, errW_some] <;> rfl) | (simp [*, errW_none, errW_some] <;> rfl), kB0 HB⟩
        ·rw [if_neg c8] at H
         exact absurd H (by simp)
       ·rw [if_neg c7] at H
        have c7b0 := decide_eq_false c7
        clear c7
        obtain rfl := Option.some.inj H
        go_wp2
        go_ret
        exact ⟨by first | rfl | (simp [errW_none, errW_some] <;> rfl) | (simp [*, errW_none, errW_some] <;> rfl), kB0 HB⟩
end Go.Proofs.Ytfmjgjfbnilpoaa.FAll
