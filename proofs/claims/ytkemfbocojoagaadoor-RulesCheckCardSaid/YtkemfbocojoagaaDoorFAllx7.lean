-- written by fprint.sh, a program of ours over the kit's print: not by hand
import Derived.Test.YtkemfbocojoagaaDoorFAllx0
import Derived.Test.YtkemfbocojoagaaDoorFAllx6
namespace Go.Proofs.YtkemfbocojoagaaDoor.FAll
open Go.RowKit Go.Proofs.YtkemfbocojoagaaDoorW.PrintWords Go.Proofs.YtkemfbocojoagaaDoorW.PrintLast Go.Proofs.YtkemfbocojoagaaDoorW.PrintMore
attribute [local go_sem] feq_walk fne_walk flt_walk fle_walk fgt_walk fge_walk fint_walk fstore_walk run_f64bits max2_int min2_int max_two min_two max_three min_three max_four min_four   -- for this text's walks alone
set_option linter.unusedVariables false
set_option linter.unusedSimpArgs false
/-! ### thicketref08_Room: function 13 -/
mutual
def thicketref08_Room.j0 : Nat → Int → Bool → ByteArray → List ByteArray → Int → List Int → List (S36) → Option (List Int × Int)
 | 0, _, _, _, _, _, _, _ => none
 | k + 1, x1, x18, x227000, x227001, x227002, x227003, x227004 => if x18 = true then (some (([] : List Int), 2)) else (if 0 ≤ x1 then (if x1 < (x227003.length : Int) then ((thicketref08_amount.f (rd x227003 x1)).bind fun t228 => (thicketref08_Room.l0 k x1 t228 0 0 x227000 x227001 x227002 x227003 x227004)) else (none)) else (none))
def thicketref08_Room.l0 : Nat → Int → Int → Int → Int → ByteArray → List ByteArray → Int → List Int → List (S36) → Option (List Int × Int)
 | 0, _, _, _, _, _, _, _, _, _ => none
 | k + 1, x1, x6, x7, x8, x227000, x227001, x227002, x227003, x227004 => if x8 < (x227004.length : Int) then (if 0 ≤ x8 then (if ((rd_T36 x227004 x8).f0) = x1 then ((thicketref08_Largest.f k ((rd_T36 x227004 x8).f0) ((rd_T36 x227004 x8).f1)).bind fun t237 => (if (IntKind.u64.wrap (x6 + t237)) < t237 then (thicketref08_Room.l0 k x1 (IntKind.u64.wrap (x6 + t237)) (IntKind.u64.wrap (x7 + 1)) (wrap64 (x8 + 1)) x227000 x227001 x227002 x227003 x227004) else (thicketref08_Room.l0 k x1 (IntKind.u64.wrap (x6 + t237)) x7 (wrap64 (x8 + 1)) x227000 x227001 x227002 x227003 x227004))) else (thicketref08_Room.l0 k x1 x6 x7 (wrap64 (x8 + 1)) x227000 x227001 x227002 x227003 x227004)) else (none)) else ((thicketref01_Norm.f k (([(Go.bits .and .u64 x6 4294967295) % 4294967296, (x6 / 4294967296) % 4294967296, (Go.bits .and .u64 x7 4294967295) % 4294967296, (x7 / 4294967296) % 4294967296] : List Int))).bind fun t232 => (some (t232, 0)))
end
def thicketref08_Room.f (k : Nat) (a0_0 : ByteArray) (l0_1 : List ByteArray) (a0_2 : Int) (l0_3 : List Int) (l0_4 : List (S36)) (a1 : Int) : Option (List Int × Int) := if a1 < 0 then (thicketref08_Room.j0 k a1 true a0_0 l0_1 a0_2 l0_3 l0_4) else (thicketref08_Room.j0 k a1 (decide (a1 ≥ (l0_3.length : Int))) a0_0 l0_1 a0_2 l0_3 l0_4)
theorem thicketref08_Room.mono_l : ∀ k, (∀ y0 y1 y2 y3 y4 y5 y6, LeO (thicketref08_Room.j0 k y0 y1 y2 y3 y4 y5 y6) (thicketref08_Room.j0 (k + 1) y0 y1 y2 y3 y4 y5 y6)) ∧ (∀ y0 y1 y2 y3 y4 y5 y6 y7 y8, LeO (thicketref08_Room.l0 k y0 y1 y2 y3 y4 y5 y6 y7 y8) (thicketref08_Room.l0 (k + 1) y0 y1 y2 y3 y4 y5 y6 y7 y8))
 | 0 => ⟨fun _ _ _ _ _ _ _ r h => by simp [thicketref08_Room.j0] at h, fun _ _ _ _ _ _ _ _ _ r h => by simp [thicketref08_Room.l0] at h⟩
 | k + 1 => by
  obtain ⟨ih0, ih1⟩ := thicketref08_Room.mono_l k
  refine ⟨?_, ?_⟩
  ·intro y0 y1 y2 y3 y4 y5 y6
   unfold thicketref08_Room.j0
   repeat' first
   | (with_reducible exact ih0 _ _ _ _ _ _ _)
   | (with_reducible exact ih1 _ _ _ _ _ _ _ _ _)
   | (with_reducible exact thicketref01_Norm.mono _ _)
   | (with_reducible exact thicketref08_Largest.mono _ _ _)
   | (with_reducible exact LeO.refl _)
   | (with_reducible exact LeO.none _)
   | (with_reducible refine LeO.ite ?_ ?_)
   | (with_reducible refine LeO.bind ?_ (fun _ => ?_))
   | exact ih0 _ _ _ _ _ _ _
   | exact ih1 _ _ _ _ _ _ _ _ _
   | exact thicketref01_Norm.mono _ _
   | exact thicketref08_Largest.mono _ _ _
   | exact LeO.none _
   | refine LeO.ite ?_ ?_
   | refine LeO.bind ?_ (fun _ => ?_)
  ·intro y0 y1 y2 y3 y4 y5 y6 y7 y8
   unfold thicketref08_Room.l0
   repeat' first
   | (with_reducible exact ih0 _ _ _ _ _ _ _)
   | (with_reducible exact ih1 _ _ _ _ _ _ _ _ _)
   | (with_reducible exact thicketref01_Norm.mono _ _)
   | (with_reducible exact thicketref08_Largest.mono _ _ _)
   | (with_reducible exact LeO.refl _)
   | (with_reducible exact LeO.none _)
   | (with_reducible refine LeO.ite ?_ ?_)
   | (with_reducible refine LeO.bind ?_ (fun _ => ?_))
   | exact ih0 _ _ _ _ _ _ _
   | exact ih1 _ _ _ _ _ _ _ _ _
   | exact thicketref01_Norm.mono _ _
   | exact thicketref08_Largest.mono _ _ _
   | exact LeO.none _
   | refine LeO.ite ?_ ?_
   | refine LeO.bind ?_ (fun _ => ?_)
theorem thicketref08_Room.mono : ∀ a0 a1 a2 a3 a4 a5 k, LeO (thicketref08_Room.f k a0 a1 a2 a3 a4 a5) (thicketref08_Room.f (k + 1) a0 a1 a2 a3 a4 a5) := by
 intro a0 a1 a2 a3 a4 a5 k
 obtain ⟨ih0, ih1⟩ := thicketref08_Room.mono_l k
 unfold thicketref08_Room.f
 repeat' first
   | (with_reducible exact ih0 _ _ _ _ _ _ _)
   | (with_reducible exact ih1 _ _ _ _ _ _ _ _ _)
   | (with_reducible exact thicketref01_Norm.mono _ _)
   | (with_reducible exact thicketref08_Largest.mono _ _ _)
   | (with_reducible exact LeO.refl _)
   | (with_reducible exact LeO.none _)
   | (with_reducible refine LeO.ite ?_ ?_)
   | (with_reducible refine LeO.bind ?_ (fun _ => ?_))
   | exact ih0 _ _ _ _ _ _ _
   | exact ih1 _ _ _ _ _ _ _ _ _
   | exact thicketref01_Norm.mono _ _
   | exact thicketref08_Largest.mono _ _ _
   | exact LeO.none _
   | refine LeO.ite ?_ ?_
   | refine LeO.bind ?_ (fun _ => ?_)
set_option maxHeartbeats 8000000 in
set_option maxRecDepth 100000 in
theorem thicketref08_Room.calls (k : Nat) (a0_0 : ByteArray) (A0_1 : Option Addr) (c0_1 : Nat) (l0_1 : List ByteArray) (a0_2 : Int) (A0_3 : Option Addr) (c0_3 : Nat) (l0_3 : List Int) (A0_4 : Option Addr) (c0_4 : Nat) (l0_4 : List (S36)) (a1 : Int) (r1 : List Int) (r2 : Int) (w : World) (hr0_1 : Kd.C Kd.string w A0_1 l0_1.length l0_1) (hc0_1 : l0_1.length ≤ c0_1) (hr0_3 : Kd.C (Kd.int .i64) w A0_3 l0_3.length l0_3) (hc0_3 : l0_3.length ≤ c0_3) (hr0_4 : Kd.C k36 w A0_4 l0_4.length l0_4) (hc0_4 : l0_4.length ≤ c0_4) (h : thicketref08_Room.f k a0_0 l0_1 a0_2 l0_3 l0_4 a1 = some (r1, r2)) :
  Calls Tryd.prog 13 #[.agg #[.string a0_0, .slice A0_1 l0_1.length c0_1, .int .i64 a0_2, .slice A0_3 l0_3.length c0_3, .slice A0_4 l0_4.length c0_4], .int .i64 a1] w fun e w' => ∃ v0_ : Value, e = .returned (.tuple #[v0_, .int .i64 r2]) ∧ Kd.R (Kd.int .u32) 72 w' w.heap.size (fun _ => True) v0_ r1 ∧ Below w.heap.size w w' := by
 have hu26 := Tryd.underlying26
 have hu36 := Tryd.underlying36
 have HR0_1 := Aside0.mk hr0_1
 have HC0_1 := Aside0.mk hc0_1
 clear hr0_1 hc0_1
 have HR0_3 := Aside0.mk hr0_3
 have HC0_3 := Aside0.mk hc0_3
 clear hr0_3 hc0_3
 have HR0_4 := Aside0.mk hr0_4
 have HC0_4 := Aside0.mk hc0_4
 clear hr0_4 hc0_4
 have HB := Aside0.mk (Below.refl w.heap.size w)
 have H : (if a1 < 0 then (thicketref08_Room.j0 k a1 true a0_0 l0_1 a0_2 l0_3 l0_4) else (thicketref08_Room.j0 k a1 (decide (a1 ≥ (l0_3.length : Int))) a0_0 l0_1 a0_2 l0_3 l0_4)) = some (r1, r2) := h
 clear h
 have HC3 := Aside0.mk H
 clear H
 go_enter Tryd.func13, Tryd.ntmps13
 go_upto_region 1 with (first | ((with_reducible refine gate_dst (N := 2) rfl ?_); (try (refine gate_guard (by rfl) ?_; dsimp only)); refine box_event ?hg (N := 2) ?hd (cs := #[.string a0_0, .slice A0_1 l0_1.length c0_1, .int .i64 a0_2, .slice A0_3 l0_3.length c0_3, .slice A0_4 l0_4.length c0_4]) (t := 26) ?hr ?_; (case hd => rfl); (case hg => rfl); (case hr => first | (go_simp; done) | (go_simp; rfl)); intro gb226 hg w4 hbox hb; have n0_ := Aside0.mk (below_step (kB0 HB) hb); have n1_ := Aside0.mk (hbox); have n2_ := Aside0.mk ((kg hg (kB0 HB) : w.heap.size ≤ gb226)); have n3_ := Aside0.mk ((kg hg (kB0 HB) : w.heap.size ≤ gb226)); clear HB; have HB := n0_; have BK226 := n1_; have GW226 := n2_; have GE226 := n3_; clear n0_ n1_ n2_ n3_; clear hb hbox hg))
 (try simp only [Act.put, List.setIfInBounds_toArray, List.set_cons_zero, List.set_cons_succ])
 go_cut [18] (fun v18 wc => ∃ (kq : Nat) (x18_2 : Bool), v18 = .bool x18_2 ∧ Aside0 (thicketref08_Room.j0 kq a1 x18_2 a0_0 l0_1 a0_2 l0_3 l0_4 = some (r1, r2)) ∧ Aside0 (kq ≤ k) ∧ Aside0 (wc.heap[gb226]? = some (.cells #[.string a0_0, (.slice A0_1 l0_1.length c0_1), .int .i64 a0_2, (.slice A0_3 l0_3.length c0_3), (.slice A0_4 l0_4.length c0_4)] 26 (0, 0))) ∧ Aside0 (Below w.heap.size w wc))
 case first =>
  have H := HC3.out
  clear HC3
  by_cases c5 : a1 < 0
  ·rw [if_pos c5] at H
   have c5b0 : decide (a1 < 0) = true := decide_eq_true c5
   clear c5
   (first | rw [c5b0] | (simp only [i64_w, i32_w]; rw [c5b0]) | skip)
   have H' := Aside0.mk H
   clear H
   go_wp2
   go_meet
   case rel => exact ⟨_, (true), kr, H', ⟨ko⟩, ⟨kb BK226⟩, ⟨kB1 HB GE226⟩⟩
  ·rw [if_neg c5] at H
   have c5b0 : decide (a1 < 0) = false := decide_eq_false c5
   clear c5
   (first | rw [c5b0] | (simp only [i64_w, i32_w]; rw [c5b0]) | skip)
   have H' := Aside0.mk H
   clear H
   have hcz6 := blk5 (w := w4) BK226.out
   go_wp2
   go_meet
   case rel => exact ⟨_, (decide (a1 ≥ (l0_3.length : Int))), kr, H', ⟨ko⟩, ⟨kb BK226⟩, ⟨kB1 HB GE226⟩⟩
 case rest =>
  clear HC3
  try clear c1
  try clear p2
  try clear c5
  try clear c5b0
  try clear hcz6
  obtain ⟨kq, x18_2, rfl, HA, HJ2, BK226, HB⟩ := hcut
  cases kq with
  | zero => exact absurd HA.out (by simp [thicketref08_Room.j0])
  | succ kj2 =>
   have H := HA.out
   clear HA
   simp only [thicketref08_Room.j0] at H
   by_cases c7 : x18_2 = true
   ·subst c7
    have H1 : (some (([] : List Int), 2)) = some (r1, r2) := by rw [if_pos rfl] at H; exact H
    clear H
    have H := H1
    clear H1
    simp only [Option.some.injEq, Prod.mk.injEq] at H
    obtain ⟨rfl, rfl⟩ := H
    go_wp2
    go_ret2
    exact ⟨_, by first | rfl | (simp [errW_none, errW_some] <;> rfl) | (simp [*, errW_none, errW_some] <;> rfl), by first | exact Kd.R_nil _ _ _ _ _ | exact Kd.N_nil _ _ _ _ _ | exact Kd.V_nil _ _ _ _ _ | exact Kd.Q_nil _ _ _ _ _ | exact Kd.S_nil _ _ _ _ _, kB1 HB GE226⟩
   ·replace c7 := Bool.eq_false_iff.mpr c7
    subst c7
    have H1 : (if 0 ≤ a1 then (if a1 < (l0_3.length : Int) then ((thicketref08_amount.f (rd l0_3 a1)).bind fun t228 => (thicketref08_Room.l0 kj2 a1 t228 0 0 a0_0 l0_1 a0_2 l0_3 l0_4)) else (none)) else (none)) = some (r1, r2) := by rw [if_neg (show ¬ (false = true) by decide)] at H; exact H
    clear H
    have H := H1
    clear H1
    by_cases c8 : 0 ≤ a1
    ·rw [if_pos c8] at H
     have c8b0 : decide (0 ≤ a1) = true := decide_eq_true c8
     clear c8
     by_cases c9 : a1 < (l0_3.length : Int)
     ·rw [if_pos c9] at H
      have c9b0 : decide (a1 < (l0_3.length : Int)) = true := decide_eq_true c9
      clear c9
      replace H := Option.bind_eq_some_iff.mp H
      obtain ⟨t228, A100, H⟩ := H
      replace H : (thicketref08_Room.l0 kj2 a1 t228 0 0 a0_0 l0_1 a0_2 l0_3 l0_4) = some (r1, r2) := H
      have A10 := Aside0.mk A100
      clear A100
      have H' := Aside0.mk H
      clear H
      have hcz11 := blk5 (w := wc) BK226.out
      have p227 : 0 ≤ (a1 : Int) := of_decide_eq_true ka
      have q227 : a1 < (l0_3.length : Int) := of_decide_eq_true ka
      obtain ⟨ad227, e227, hx227_0⟩ := Kd.at_int HR0_3.out a1 p227 q227
      cases e227
      replace hx227_0 := (HB.out.cell (World.block_lt_of_cell? w _ hx227_0)).trans hx227_0
      replace p227 := eq_true p227
      replace q227 := eq_true q227
      go_wp2_with (first | ((with_reducible refine gate_callee (f := 34) rfl ?_); refine goesL_ (some 24) rfl rfl Tryd.func34 (by kernel_rfl) rfl #[.int .i64 (rd l0_3 a1)] rfl (by (try simp only [List.map_toArray, List.map_cons, List.map_nil]); first | done | rfl | (simp only [List.length_drop, List.length_take]; rfl)) ?_; (with_reducible refine (thicketref08_amount.calls (rd l0_3 a1) t228 _ A10.out).mono ?_); rintro e w' ⟨rfl, ⟨nd, rfl⟩⟩; refine ⟨_, rfl, ?_⟩))
      go_loopg [6, 7, 8] kj2 (fun kq v6 v7 v8 w' => ∃ (x6_2 : Int) (x7_2 : Int) (x8_2 : Int), v6 = .int .u64 x6_2 ∧ v7 = .int .u64 x7_2 ∧ v8 = .int .i64 x8_2 ∧ Aside0 (thicketref08_Room.l0 kq a1 x6_2 x7_2 x8_2 a0_0 l0_1 a0_2 l0_3 l0_4 = some (r1, r2)) ∧ Aside0 (kq ≤ kj2) ∧ Aside0 (w'.heap[gb226]? = some (.cells #[.string a0_0, (.slice A0_1 l0_1.length c0_1), .int .i64 a0_2, (.slice (some ad227) l0_3.length c0_3), (.slice A0_4 l0_4.length c0_4)] 26 (0, 0))) ∧ Aside0 (Below w.heap.size w w'))
      case atStart => exact ⟨(t228), (0), (0), kr, kr, kr, H', ⟨Nat.le_refl _⟩, ⟨kb BK226⟩, ⟨kB1 HB GE226⟩⟩
      case round =>
       clear H'
       try clear c1
       try clear p2
       try clear q2
       try clear hx2
       try clear c3
       try clear c5
       try clear c5b0
       try clear c7
       try clear c8
       try clear c8b0
       try clear c9
       try clear c9b0
       try clear hcz11
       try clear hcz6
       try clear hx227_0
       try clear p227
       try clear q227
       obtain ⟨x6_2, x7_2, x8_2, rfl, rfl, rfl, HA, HK2, BK226, HB⟩ := hrel
       cases gk with
       | zero => exact absurd HA.out (by simp [thicketref08_Room.l0])
       | succ k2 =>
        have H := HA.out
        clear HA
        simp only [thicketref08_Room.l0] at H
        by_cases c12 : x8_2 < (l0_4.length : Int)
        ·rw [if_pos c12] at H
         have c12b0 : decide (x8_2 < (l0_4.length : Int)) = true := decide_eq_true c12
         clear c12
         by_cases c13 : 0 ≤ x8_2
         ·rw [if_pos c13] at H
          have c13b0 : decide (0 ≤ x8_2) = true := decide_eq_true c13
          clear c13
          by_cases c14 : ((rd_T36 l0_4 x8_2).f0) = a1
          ·rw [if_pos c14] at H
           have c14b0 : (((rd_T36 l0_4 x8_2).f0) == a1) = true := beq_iff_eq.mpr c14
           have c14b1 : (((rd_T36 l0_4 x8_2).f0) != a1) = false := bne_eq_false_iff_eq.mpr c14
           clear c14
           replace H := Option.bind_eq_some_iff.mp H
           obtain ⟨t237, A150, H⟩ := H
           replace H : (if (IntKind.u64.wrap (x6_2 + t237)) < t237 then (thicketref08_Room.l0 k2 a1 (IntKind.u64.wrap (x6_2 + t237)) (IntKind.u64.wrap (x7_2 + 1)) (wrap64 (x8_2 + 1)) a0_0 l0_1 a0_2 l0_3 l0_4) else (thicketref08_Room.l0 k2 a1 (IntKind.u64.wrap (x6_2 + t237)) x7_2 (wrap64 (x8_2 + 1)) a0_0 l0_1 a0_2 l0_3 l0_4)) = some (r1, r2) := H
           have A15 := Aside0.mk A150
           clear A150
           by_cases c16 : (IntKind.u64.wrap (x6_2 + t237)) < t237
           ·rw [if_pos c16] at H
            have c16b0 : decide ((IntKind.u64.wrap (x6_2 + t237)) < t237) = true := decide_eq_true c16
            clear c16
            have H' := Aside0.mk H
            clear H
            have hcz17 := blk5 (w := wr) BK226.out
            have p235 : 0 ≤ (x8_2 : Int) := of_decide_eq_true ka
            have q235 : x8_2 < (l0_4.length : Int) := of_decide_eq_true ka
            obtain ⟨ad235, A235_1, c235_1, e235, hx235_0, hx235_1, hl235_1, hi235_1⟩ := at_T36 HR0_4.out x8_2 p235 q235
            cases e235
            replace hx235_0 := (HB.out.cell (World.block_lt_of_cell? w _ hx235_0)).trans hx235_0
            replace hx235_1 := (HB.out.cell (World.block_lt_of_cell? w _ hx235_1)).trans hx235_1
            have HR235_1 := Aside0.mk hi235_1
            have HC235_1 := Aside0.mk hl235_1
            clear hi235_1 hl235_1
            replace p235 := eq_true p235
            replace q235 := eq_true q235
            have p236 : 0 ≤ (x8_2 : Int) := of_decide_eq_true ka
            have q236 : x8_2 < (l0_4.length : Int) := of_decide_eq_true ka
            obtain ⟨ad236, A236_1, c236_1, e236, hx236_0, hx236_1, hl236_1, hi236_1⟩ := at_T36 HR0_4.out x8_2 p236 q236
            obtain rfl : ad235 = ad236 := (by injection e236)
            replace hx236_0 := (HB.out.cell (World.block_lt_of_cell? w _ hx236_0)).trans hx236_0
            replace hx236_1 := (HB.out.cell (World.block_lt_of_cell? w _ hx236_1)).trans hx236_1
            have HR236_1 := Aside0.mk hi236_1
            have HC236_1 := Aside0.mk hl236_1
            clear hi236_1 hl236_1
            replace p236 := eq_true p236
            replace q236 := eq_true q236
            have ea_ := Option.some.inj (hx235_1.symm.trans hx236_1)
            injection ea_ with ea_ en_ ec_
            subst ea_
            subst ec_
            clear en_
            go_wp2_with (first | ((with_reducible refine gate_callee (f := 35) rfl ?_); refine goesL_ (some 45) rfl rfl Tryd.func35 (by kernel_rfl) rfl #[.agg #[.int .i64 ((rd_T36 l0_4 x8_2).f0), .slice A235_1 ((rd_T36 l0_4 x8_2).f1).length c235_1]] rfl (by (try simp only [List.map_toArray, List.map_cons, List.map_nil]); first | done | rfl | (simp only [List.length_drop, List.length_take]; rfl)) ?_; (with_reducible refine (thicketref08_Largest.calls k2 ((rd_T36 l0_4 x8_2).f0) _ _ ((rd_T36 l0_4 x8_2).f1) t237 _ ?side1 ?side2 A15.out).mono ?_); (case side1 => repeat (first | exact (Kd.C_below HR236_1.out HB.out) | (with_reducible refine Kd.C_alloc ?_ _) | (with_reducible refine Kd.C_drewN ?_ _) | (with_reducible refine Kd.C_drew ?_))); (case side2 => exact HC236_1.out); rintro e w18 ⟨rfl, hb⟩; refine ⟨_, rfl, ?_⟩; have n0_ := Aside0.mk (blk_below (g := gb226) (o := .cells #[.string a0_0, .slice A0_1 l0_1.length c0_1, .int .i64 a0_2, .slice (some ad227) l0_3.length c0_3, .slice (some ad235) l0_4.length c0_4] 26 (0, 0)) (kb BK226) hb); have n1_ := Aside0.mk (below_step (kB1 HB GE226) hb); clear BK226; clear HB; have BK226 := n0_; have HB := n1_; clear n0_ n1_; (try clear hb); (try clear hb2); (try clear hk); (try clear hi)))
            go_roundg k2
            case measure => have := HJ2.out; have := HK2.out; omega
            case rel => exact ⟨(IntKind.u64.wrap (x6_2 + t237)), (IntKind.u64.wrap (x7_2 + 1)), (wrap64 (x8_2 + 1)), kr, kr, kr, H', ⟨by have := HJ2.out; have := HK2.out; omega⟩, ⟨kb BK226⟩, ⟨kB1 HB GE226⟩⟩
           ·rw [if_neg c16] at H
            have c16b0 : decide ((IntKind.u64.wrap (x6_2 + t237)) < t237) = false := decide_eq_false c16
            clear c16
            have H' := Aside0.mk H
            clear H
            have hcz19 := blk5 (w := wr) BK226.out
            have p235 : 0 ≤ (x8_2 : Int) := of_decide_eq_true ka
            have q235 : x8_2 < (l0_4.length : Int) := of_decide_eq_true ka
            obtain ⟨ad235, A235_1, c235_1, e235, hx235_0, hx235_1, hl235_1, hi235_1⟩ := at_T36 HR0_4.out x8_2 p235 q235
            cases e235
            replace hx235_0 := (HB.out.cell (World.block_lt_of_cell? w _ hx235_0)).trans hx235_0
            replace hx235_1 := (HB.out.cell (World.block_lt_of_cell? w _ hx235_1)).trans hx235_1
            have HR235_1 := Aside0.mk hi235_1
            have HC235_1 := Aside0.mk hl235_1
            clear hi235_1 hl235_1
            replace p235 := eq_true p235
            replace q235 := eq_true q235
            have p236 : 0 ≤ (x8_2 : Int) := of_decide_eq_true ka
            have q236 : x8_2 < (l0_4.length : Int) := of_decide_eq_true ka
            obtain ⟨ad236, A236_1, c236_1, e236, hx236_0, hx236_1, hl236_1, hi236_1⟩ := at_T36 HR0_4.out x8_2 p236 q236
            obtain rfl : ad235 = ad236 := (by injection e236)
            replace hx236_0 := (HB.out.cell (World.block_lt_of_cell? w _ hx236_0)).trans hx236_0
            replace hx236_1 := (HB.out.cell (World.block_lt_of_cell? w _ hx236_1)).trans hx236_1
            have HR236_1 := Aside0.mk hi236_1
            have HC236_1 := Aside0.mk hl236_1
            clear hi236_1 hl236_1
            replace p236 := eq_true p236
            replace q236 := eq_true q236
            have ea_ := Option.some.inj (hx235_1.symm.trans hx236_1)
            injection ea_ with ea_ en_ ec_
            subst ea_
            subst ec_
            clear en_
            go_wp2_with (first | ((with_reducible refine gate_callee (f := 35) rfl ?_); refine goesL_ (some 45) rfl rfl Tryd.func35 (by kernel_rfl) rfl #[.agg #[.int .i64 ((rd_T36 l0_4 x8_2).f0), .slice A235_1 ((rd_T36 l0_4 x8_2).f1).length c235_1]] rfl (by (try simp only [List.map_toArray, List.map_cons, List.map_nil]); first | done | rfl | (simp only [List.length_drop, List.length_take]; rfl)) ?_; (with_reducible refine (thicketref08_Largest.calls k2 ((rd_T36 l0_4 x8_2).f0) _ _ ((rd_T36 l0_4 x8_2).f1) t237 _ ?side1 ?side2 A15.out).mono ?_); (case side1 => repeat (first | exact (Kd.C_below HR236_1.out HB.out) | (with_reducible refine Kd.C_alloc ?_ _) | (with_reducible refine Kd.C_drewN ?_ _) | (with_reducible refine Kd.C_drew ?_))); (case side2 => exact HC236_1.out); rintro e w20 ⟨rfl, hb⟩; refine ⟨_, rfl, ?_⟩; have n0_ := Aside0.mk (blk_below (g := gb226) (o := .cells #[.string a0_0, .slice A0_1 l0_1.length c0_1, .int .i64 a0_2, .slice (some ad227) l0_3.length c0_3, .slice (some ad235) l0_4.length c0_4] 26 (0, 0)) (kb BK226) hb); have n1_ := Aside0.mk (below_step (kB1 HB GE226) hb); clear BK226; clear HB; have BK226 := n0_; have HB := n1_; clear n0_ n1_; (try clear hb); (try clear hb2); (try clear hk); (try clear hi)))
            go_roundg k2
            case measure => have := HJ2.out; have := HK2.out; omega
            case rel => exact ⟨(IntKind.u64.wrap (x6_2 + t237)), (x7_2), (wrap64 (x8_2 + 1)), kr, kr, kr, H', ⟨by have := HJ2.out; have := HK2.out; omega⟩, ⟨kb BK226⟩, ⟨kB1 HB GE226⟩⟩
          ·rw [if_neg c14] at H
           have c14b0 : (((rd_T36 l0_4 x8_2).f0) == a1) = false := beq_eq_false_iff_ne.mpr c14
           have c14b1 : (((rd_T36 l0_4 x8_2).f0) != a1) = true := bne_iff_ne.mpr c14
           have H' := Aside0.mk H
           clear H
           have hcz21 := blk5 (w := wr) BK226.out
           have p235 : 0 ≤ (x8_2 : Int) := of_decide_eq_true ka
           have q235 : x8_2 < (l0_4.length : Int) := of_decide_eq_true ka
           obtain ⟨ad235, A235_1, c235_1, e235, hx235_0, hx235_1, hl235_1, hi235_1⟩ := at_T36 HR0_4.out x8_2 p235 q235
           cases e235
           replace hx235_0 := (HB.out.cell (World.block_lt_of_cell? w _ hx235_0)).trans hx235_0
           replace hx235_1 := (HB.out.cell (World.block_lt_of_cell? w _ hx235_1)).trans hx235_1
           have HR235_1 := Aside0.mk hi235_1
           have HC235_1 := Aside0.mk hl235_1
           clear hi235_1 hl235_1
           replace p235 := eq_true p235
           replace q235 := eq_true q235
           go_wp2
           go_roundg k2
           case measure => have := HJ2.out; have := HK2.out; omega
           case rel => exact ⟨(x6_2), (x7_2), (wrap64 (x8_2 + 1)), kr, kr, kr, H', ⟨by have := HJ2.out; have := HK2.out; omega⟩, ⟨kb BK226⟩, ⟨kB1 HB GE226⟩⟩
         ·rw [if_neg c13] at H
          exact absurd H (by simp)
        ·rw [if_neg c12] at H
         have c12b0 : decide (x8_2 < (l0_4.length : Int)) = false := decide_eq_false c12
         clear c12
         obtain ⟨y229, hy229⟩ : ∃ y_ : List Int, y_ = (([(Go.bits .and .u64 x6_2 4294967295) % 4294967296, (x6_2 / 4294967296) % 4294967296, (Go.bits .and .u64 x7_2 4294967295) % 4294967296, (x7_2 / 4294967296) % 4294967296] : List Int)) := ⟨_, rfl⟩
         replace H : ((thicketref01_Norm.f k2 y229).bind fun t232 => (some (t232, 0))) = some (r1, r2) := by first | (rw [hy229]; with_reducible exact H) | (have H2_ := (Option.bind_some _ _).symm.trans H; rw [hy229]; with_reducible exact H2_) | (have H2_ := (Option.bind_some _ _).symm.trans H; with_reducible exact H2_) | with_reducible exact H | (rw [hy229]; exact H) | exact H
         have Ny229 := Aside0.mk hy229
         clear hy229
         replace H := Option.bind_eq_some_iff.mp H
         obtain ⟨t232, A220, H⟩ := H
         replace H : (some (t232, 0)) = some (r1, r2) := H
         have A22 := Aside0.mk A220
         clear A220
         simp only [Option.some.injEq, Prod.mk.injEq] at H
         obtain ⟨rfl, rfl⟩ := H
         have hcz23 := blk5 (w := wr) BK226.out
         go_wp2_with (first | ((with_reducible refine gate_dst (N := 66) rfl ?_); (try (refine gate_guard (by rfl) ?_; dsimp only)); refine Kd.R_lit (Kd.int .u32) _ 72 ?hg (N := 66) ?hd (xs := ([(Go.bits .and .u64 x6_2 4294967295) % 4294967296, (x6_2 / 4294967296) % 4294967296, (Go.bits .and .u64 x7_2 4294967295) % 4294967296, (x7_2 / 4294967296) % 4294967296] : List Int)) (inner := [.int .u32 ((Go.bits .and .u64 x6_2 4294967295) % 4294967296), .int .u32 ((x6_2 / 4294967296) % 4294967296), .int .u32 ((Go.bits .and .u64 x7_2 4294967295) % 4294967296), .int .u32 ((x7_2 / 4294967296) % 4294967296)]) (ok := fun _ => True) (okp := fun _ => True) ?hr ?hp (fun _ hk => hk) trivial (Below.refl _ _) (Nat.le_refl _) (by simp) ?_; (case hd => rfl); (case hg => rfl); (case hr => first | (go_simp; done) | (go_simp; rfl)); (case hp => exact (Reps.one (show Kd.M (Kd.int .u32) _ _ _ ((Go.bits .and .u64 x6_2 4294967295) % 4294967296) [.int .u32 ((Go.bits .and .u64 x6_2 4294967295) % 4294967296)] from rfl) (Reps.one (show Kd.M (Kd.int .u32) _ _ _ ((x6_2 / 4294967296) % 4294967296) [.int .u32 ((x6_2 / 4294967296) % 4294967296)] from rfl) (Reps.one (show Kd.M (Kd.int .u32) _ _ _ ((Go.bits .and .u64 x7_2 4294967295) % 4294967296) [.int .u32 ((Go.bits .and .u64 x7_2 4294967295) % 4294967296)] from rfl) (Reps.one (show Kd.M (Kd.int .u32) _ _ _ ((x7_2 / 4294967296) % 4294967296) [.int .u32 ((x7_2 / 4294967296) % 4294967296)] from rfl) (Reps.none _ _)))))); intro v230 w24 ho25 hb hg_ hnew_; clear hg_ hnew_; (first | rw [← Ny229.out] at ho25 | (simp only [Int.reduceToNat] at ho25; rw [← Ny229.out] at ho25)); have n0_ := Aside0.mk (Kd.R_lower ho25 (below_size (kB1 HB GE226))); have n1_ := Aside0.mk (blk_below (g := gb226) (o := .cells #[.string a0_0, .slice A0_1 l0_1.length c0_1, .int .i64 a0_2, .slice (some ad227) l0_3.length c0_3, .slice A0_4 l0_4.length c0_4] 26 (0, 0)) (kb BK226) hb); have n2_ := Aside0.mk (below_step (kB1 HB GE226) hb); clear BK226; clear HB; have HO231 := n0_; have BK226 := n1_; have HB := n2_; clear n0_ n1_ n2_; clear hb ho25; obtain ⟨Ao26, co26, eo26⟩ := Kd.R_slice HO231.out; subst eo26) | ((with_reducible refine gate_callee (f := 33) rfl ?_); refine goesL_ (some 67) rfl rfl Tryd.func33 (by kernel_rfl) rfl #[.slice Ao26 y229.length co26] rfl (by (try simp only [List.map_toArray, List.map_cons, List.map_nil]); first | done | rfl | (simp only [List.length_drop, List.length_take]; rfl)) ?_; (with_reducible refine (thicketref01_Norm.calls k2 _ _ y229 t232 _ ?side1 ?side2 A22.out).mono ?_); (case side1 => repeat (first | exact (Kd.R_reads' HO231.out).2.2 | (with_reducible refine Kd.C_alloc ?_ _) | (with_reducible refine Kd.C_drewN ?_ _) | (with_reducible refine Kd.C_drew ?_))); (case side2 => exact (Kd.R_reads' HO231.out).2.1); rintro e w27 ⟨v233, rfl, ho0, hb⟩; refine ⟨_, rfl, ?_⟩; have n0_ := Aside0.mk (Kd.R_elder' (kR HO231) (Kd.R_base ho0) hb); have n1_ := Aside0.mk (Kd.R_lower (Kd.R_new' ho0 (Kd.R_lt (kR HO231))) (below_size (kB1 HB GE226))); have n2_ := Aside0.mk (blk_below (g := gb226) (o := .cells #[.string a0_0, .slice A0_1 l0_1.length c0_1, .int .i64 a0_2, .slice (some ad227) l0_3.length c0_3, .slice A0_4 l0_4.length c0_4] 26 (0, 0)) (kb BK226) hb); have n3_ := Aside0.mk (below_step (kB1 HB GE226) hb); clear HO231; clear BK226; clear HB; have HO231 := n0_; have HO234 := n1_; have BK226 := n2_; have HB := n3_; clear n0_ n1_ n2_ n3_; (try clear hb); (try clear hb2); (try clear hk); (try clear hi); (try clear ho0)))
         go_ret2
         exact ⟨_, by first | rfl | (simp [errW_none, errW_some] <;> rfl) | (simp [*, errW_none, errW_some] <;> rfl), by (with_reducible repeat (first | apply Kd.R_alloc | apply Kd.R_drewN | apply Kd.R_drew)); exact Kd.R_mono HO234.out (fun _ hk => trivial), kB1 HB GE226⟩
     ·rw [if_neg c9] at H
      exact absurd H (by simp)
    ·rw [if_neg c8] at H
     exact absurd H (by simp)
/-! ### thicketref01_Cmp: function 14 -/
def thicketref01_Cmp.l0 : Nat → List Int → List Int → Int → Option (Int)
 | 0, _, _, _ => none
 | k + 1, x5, x6, x7 => if x7 ≥ 0 then (if 0 ≤ x7 then (if x7 < (x5.length : Int) then (if x7 < (x6.length : Int) then (if (rd x5 x7) < (rd x6 x7) then (some (-1)) else (if (rd x5 x7) > (rd x6 x7) then (some 1) else (thicketref01_Cmp.l0 k x5 x6 (wrap64 (x7 - 1))))) else (none)) else (none)) else (none)) else (some 0)
def thicketref01_Cmp.f (k : Nat) (l0 : List Int) (l1 : List Int) : Option (Int) := (thicketref01_Norm.f k l0).bind fun t238 => ((thicketref01_Norm.f k l1).bind fun t241 => (if (t238.length : Int) = (t241.length : Int) then (thicketref01_Cmp.l0 k t238 t241 (wrap64 ((t238.length : Int) - 1))) else (if (t238.length : Int) < (t241.length : Int) then (some (-1)) else (some 1))))
theorem thicketref01_Cmp.mono_l : ∀ k, (∀ y0 y1 y2, LeO (thicketref01_Cmp.l0 k y0 y1 y2) (thicketref01_Cmp.l0 (k + 1) y0 y1 y2))
 | 0 => fun _ _ _ r h => by simp [thicketref01_Cmp.l0] at h
 | k + 1 => by
  have ih0 := thicketref01_Cmp.mono_l k
  ·intro y0 y1 y2
   unfold thicketref01_Cmp.l0
   repeat' first
   | (with_reducible exact ih0 _ _ _)
   | (with_reducible exact thicketref01_Norm.mono _ _)
   | (with_reducible exact LeO.refl _)
   | (with_reducible exact LeO.none _)
   | (with_reducible refine LeO.ite ?_ ?_)
   | (with_reducible refine LeO.bind ?_ (fun _ => ?_))
   | exact ih0 _ _ _
   | exact thicketref01_Norm.mono _ _
   | exact LeO.none _
   | refine LeO.ite ?_ ?_
   | refine LeO.bind ?_ (fun _ => ?_)
theorem thicketref01_Cmp.mono : ∀ a0 a1 k, LeO (thicketref01_Cmp.f k a0 a1) (thicketref01_Cmp.f (k + 1) a0 a1) := by
 intro a0 a1 k
 have ih0 := thicketref01_Cmp.mono_l k
 unfold thicketref01_Cmp.f
 repeat' first
   | (with_reducible exact ih0 _ _ _)
   | (with_reducible exact thicketref01_Norm.mono _ _)
   | (with_reducible exact LeO.refl _)
   | (with_reducible exact LeO.none _)
   | (with_reducible refine LeO.ite ?_ ?_)
   | (with_reducible refine LeO.bind ?_ (fun _ => ?_))
   | exact ih0 _ _ _
   | exact thicketref01_Norm.mono _ _
   | exact LeO.none _
   | refine LeO.ite ?_ ?_
   | refine LeO.bind ?_ (fun _ => ?_)
set_option maxHeartbeats 8000000 in
set_option maxRecDepth 100000 in
theorem thicketref01_Cmp.calls (k : Nat) (A0 : Option Addr) (c0 : Nat) (l0 : List Int) (A1 : Option Addr) (c1 : Nat) (l1 : List Int) (r : Int) (w : World) (hr0 : Kd.C (Kd.int .u32) w A0 l0.length l0) (hc0 : l0.length ≤ c0) (hr1 : Kd.C (Kd.int .u32) w A1 l1.length l1) (hc1 : l1.length ≤ c1) (h : thicketref01_Cmp.f k l0 l1 = some r) :
  Calls Tryd.prog 14 #[.slice A0 l0.length c0, .slice A1 l1.length c1] w fun e w' => e = .returned (.int .i64 r) ∧ Below w.heap.size w w' := by
 have HR0 := Aside0.mk hr0
 have HC0 := Aside0.mk hc0
 clear hr0 hc0
 have HR1 := Aside0.mk hr1
 have HC1 := Aside0.mk hc1
 clear hr1 hc1
 have HB := Aside0.mk (Below.refl w.heap.size w)
 have H : ((thicketref01_Norm.f k l0).bind fun t238 => ((thicketref01_Norm.f k l1).bind fun t241 => (if (t238.length : Int) = (t241.length : Int) then (thicketref01_Cmp.l0 k t238 t241 (wrap64 ((t238.length : Int) - 1))) else (if (t238.length : Int) < (t241.length : Int) then (some (-1)) else (some 1))))) = some r := h
 clear h
 replace H := Option.bind_eq_some_iff.mp H
 obtain ⟨t238, A30, H⟩ := H
 replace H : ((thicketref01_Norm.f k l1).bind fun t241 => (if (t238.length : Int) = (t241.length : Int) then (thicketref01_Cmp.l0 k t238 t241 (wrap64 ((t238.length : Int) - 1))) else (if (t238.length : Int) < (t241.length : Int) then (some (-1)) else (some 1)))) = some r := H
 have A3 := Aside0.mk A30
 clear A30
 replace H := Option.bind_eq_some_iff.mp H
 obtain ⟨t241, A40, H⟩ := H
 replace H : (if (t238.length : Int) = (t241.length : Int) then (thicketref01_Cmp.l0 k t238 t241 (wrap64 ((t238.length : Int) - 1))) else (if (t238.length : Int) < (t241.length : Int) then (some (-1)) else (some 1))) = some r := H
 have A4 := Aside0.mk A40
 clear A40
 by_cases c5 : (t238.length : Int) = (t241.length : Int)
 ·rw [if_pos c5] at H
  have c5b0 : ((t238.length : Int) == (t241.length : Int)) = true := beq_iff_eq.mpr c5
  have c5b1 : ((t238.length : Int) != (t241.length : Int)) = false := bne_eq_false_iff_eq.mpr c5
  have c5b2 : (t238.length == t241.length) = true := by first | simpa using c5 | (simp at c5 ⊢; omega)
  clear c5
  have H' := Aside0.mk H
  clear H
  go_enter Tryd.func14, Tryd.ntmps14
  go_wp2_with (first | (go_at_call 33; (with_reducible refine (thicketref01_Norm.calls k _ _ l0 t238 _ ?side1 ?side2 A3.out).mono ?_); (case side1 => repeat (first | exact HR0.out | (with_reducible refine Kd.C_alloc ?_ _) | (with_reducible refine Kd.C_drewN ?_ _) | (with_reducible refine Kd.C_drew ?_))); (case side2 => exact HC0.out); rintro e w6 ⟨v239, rfl, ho0, hb⟩; have n0_ := Aside0.mk (Kd.R_lower ho0 (below_size (kB0 HB))); have n1_ := Aside0.mk (below_step (kB0 HB) hb); clear HB; have HO240 := n0_; have HB := n1_; clear n0_ n1_; (try clear hb); (try clear hb2); (try clear hk); (try clear hi); (try clear ho0)) | (go_at_call 33; (with_reducible refine (thicketref01_Norm.calls k _ _ l1 t241 _ ?side1 ?side2 A4.out).mono ?_); (case side1 => repeat (first | exact (Kd.C_below HR1.out HB.out) | (with_reducible refine Kd.C_alloc ?_ _) | (with_reducible refine Kd.C_drewN ?_ _) | (with_reducible refine Kd.C_drew ?_))); (case side2 => exact HC1.out); rintro e w7 ⟨v242, rfl, ho0, hb⟩; have n0_ := Aside0.mk (Kd.R_elder' (kR HO240) (Kd.R_base ho0) hb); have n1_ := Aside0.mk (Kd.R_lower (Kd.R_new' ho0 (Kd.R_lt (kR HO240))) (below_size (kB0 HB))); have n2_ := Aside0.mk (below_step (kB0 HB) hb); clear HO240; clear HB; have HO240 := n0_; have HO243 := n1_; have HB := n2_; clear n0_ n1_ n2_; (try clear hb); (try clear hb2); (try clear hk); (try clear hi); (try clear ho0); obtain ⟨Ao8, co8, eo8⟩ := Kd.R_slice HO240.out; subst eo8; obtain ⟨Ao9, co9, eo9⟩ := Kd.R_slice HO243.out; subst eo9))
  repeat (go_quiet (first | (go_at_call 33; (with_reducible refine (thicketref01_Norm.calls k _ _ l0 t238 _ ?side1 ?side2 A3.out).mono ?_); (case side1 => repeat (first | exact HR0.out | (with_reducible refine Kd.C_alloc ?_ _) | (with_reducible refine Kd.C_drewN ?_ _) | (with_reducible refine Kd.C_drew ?_))); (case side2 => exact HC0.out); rintro e w6 ⟨v239, rfl, ho0, hb⟩; have n0_ := Aside0.mk (Kd.R_lower ho0 (below_size (kB0 HB))); have n1_ := Aside0.mk (below_step (kB0 HB) hb); clear HB; have HO240 := n0_; have HB := n1_; clear n0_ n1_; (try clear hb); (try clear hb2); (try clear hk); (try clear hi); (try clear ho0)) | (go_at_call 33; (with_reducible refine (thicketref01_Norm.calls k _ _ l1 t241 _ ?side1 ?side2 A4.out).mono ?_); (case side1 => repeat (first | exact (Kd.C_below HR1.out HB.out) | (with_reducible refine Kd.C_alloc ?_ _) | (with_reducible refine Kd.C_drewN ?_ _) | (with_reducible refine Kd.C_drew ?_))); (case side2 => exact HC1.out); rintro e w7 ⟨v242, rfl, ho0, hb⟩; have n0_ := Aside0.mk (Kd.R_elder' (kR HO240) (Kd.R_base ho0) hb); have n1_ := Aside0.mk (Kd.R_lower (Kd.R_new' ho0 (Kd.R_lt (kR HO240))) (below_size (kB0 HB))); have n2_ := Aside0.mk (below_step (kB0 HB) hb); clear HO240; clear HB; have HO240 := n0_; have HO243 := n1_; have HB := n2_; clear n0_ n1_ n2_; (try clear hb); (try clear hb2); (try clear hk); (try clear hi); (try clear ho0); obtain ⟨Ao8, co8, eo8⟩ := Kd.R_slice HO240.out; subst eo8; obtain ⟨Ao9, co9, eo9⟩ := Kd.R_slice HO243.out; subst eo9)); try go_wp2_with (first | (go_at_call 33; (with_reducible refine (thicketref01_Norm.calls k _ _ l0 t238 _ ?side1 ?side2 A3.out).mono ?_); (case side1 => repeat (first | exact HR0.out | (with_reducible refine Kd.C_alloc ?_ _) | (with_reducible refine Kd.C_drewN ?_ _) | (with_reducible refine Kd.C_drew ?_))); (case side2 => exact HC0.out); rintro e w6 ⟨v239, rfl, ho0, hb⟩; have n0_ := Aside0.mk (Kd.R_lower ho0 (below_size (kB0 HB))); have n1_ := Aside0.mk (below_step (kB0 HB) hb); clear HB; have HO240 := n0_; have HB := n1_; clear n0_ n1_; (try clear hb); (try clear hb2); (try clear hk); (try clear hi); (try clear ho0)) | (go_at_call 33; (with_reducible refine (thicketref01_Norm.calls k _ _ l1 t241 _ ?side1 ?side2 A4.out).mono ?_); (case side1 => repeat (first | exact (Kd.C_below HR1.out HB.out) | (with_reducible refine Kd.C_alloc ?_ _) | (with_reducible refine Kd.C_drewN ?_ _) | (with_reducible refine Kd.C_drew ?_))); (case side2 => exact HC1.out); rintro e w7 ⟨v242, rfl, ho0, hb⟩; have n0_ := Aside0.mk (Kd.R_elder' (kR HO240) (Kd.R_base ho0) hb); have n1_ := Aside0.mk (Kd.R_lower (Kd.R_new' ho0 (Kd.R_lt (kR HO240))) (below_size (kB0 HB))); have n2_ := Aside0.mk (below_step (kB0 HB) hb); clear HO240; clear HB; have HO240 := n0_; have HO243 := n1_; have HB := n2_; clear n0_ n1_ n2_; (try clear hb); (try clear hb2); (try clear hk); (try clear hi); (try clear ho0); obtain ⟨Ao8, co8, eo8⟩ := Kd.R_slice HO240.out; subst eo8; obtain ⟨Ao9, co9, eo9⟩ := Kd.R_slice HO243.out; subst eo9)))
  go_loopg [7] k (fun kq v7 w' => ∃ (x7_1 : Int), v7 = .int .i64 x7_1 ∧ Aside0 (thicketref01_Cmp.l0 kq t238 t241 x7_1 = some r) ∧ Aside0 (kq ≤ k) ∧ Aside0 (Kd.R (Kd.int .u32) 72 w' w.heap.size (fun k_ => some k_ ≠ ((.slice Ao9 t241.length co9) : Value).ownBlock) (.slice Ao8 t238.length co8) t238) ∧ Aside0 (Kd.R (Kd.int .u32) 72 w' w.heap.size (fun k_ => some k_ ≠ ((.slice Ao8 t238.length co8) : Value).ownBlock) (.slice Ao9 t241.length co9) t241) ∧ Aside0 (Below w.heap.size w w'))
  case atStart => exact ⟨(wrap64 ((t238.length : Int) - 1)), kr, H', ⟨Nat.le_refl _⟩, ⟨by (with_reducible repeat (first | apply Kd.R_alloc | apply Kd.R_drewN | apply Kd.R_drew)); exact Kd.R_mono HO240.out (fun _ hk => hk.2)⟩, ⟨by (with_reducible repeat (first | apply Kd.R_alloc | apply Kd.R_drewN | apply Kd.R_drew)); exact Kd.R_mono HO243.out (fun _ hk => hk.2)⟩, ⟨kB0 HB⟩⟩
  case round =>
   clear H'
   try clear c1
   try clear p2
   try clear c5
   try clear c5b0
   try clear c5b1
   try clear c5b2
   try clear p6
   obtain ⟨x7_1, rfl, HA, HK1, HO_5, HO_6, HB⟩ := hrel
   cases gk with
   | zero => exact absurd HA.out (by simp [thicketref01_Cmp.l0])
   | succ k1 =>
    have H := HA.out
    clear HA
    simp only [thicketref01_Cmp.l0] at H
    by_cases c10 : x7_1 ≥ 0
    ·rw [if_pos c10] at H
     have c10b0 : decide (0 ≤ x7_1) = true := decide_eq_true c10
     clear c10
     by_cases c11 : 0 ≤ x7_1
     ·rw [if_pos c11] at H
      have c11b0 : decide (0 ≤ x7_1) = true := decide_eq_true c11
      clear c11
      by_cases c12 : x7_1 < (t238.length : Int)
      ·rw [if_pos c12] at H
       have c12b0 : decide (x7_1 < (t238.length : Int)) = true := decide_eq_true c12
       clear c12
       by_cases c13 : x7_1 < (t241.length : Int)
       ·rw [if_pos c13] at H
        have c13b0 : decide (x7_1 < (t241.length : Int)) = true := decide_eq_true c13
        clear c13
        by_cases c14 : (rd t238 x7_1) < (rd t241 x7_1)
        ·rw [if_pos c14] at H
         have c14b0 : decide ((rd t238 x7_1) < (rd t241 x7_1)) = true := decide_eq_true c14
         clear c14
         obtain rfl := Option.some.inj H
         have p244 : 0 ≤ (x7_1 : Int) := of_decide_eq_true ka
         have q244 : x7_1 < (t238.length : Int) := of_decide_eq_true ka
         obtain ⟨ad244, e244, hx244_0⟩ := Kd.at_int (Kd.R_reads' HO_5.out).2.2 x7_1 p244 q244
         cases e244
         replace p244 := eq_true p244
         replace q244 := eq_true q244
         have p245 : 0 ≤ (x7_1 : Int) := of_decide_eq_true ka
         have q245 : x7_1 < (t241.length : Int) := of_decide_eq_true ka
         obtain ⟨ad245, e245, hx245_0⟩ := Kd.at_int (Kd.R_reads' HO_6.out).2.2 x7_1 p245 q245
         cases e245
         replace p245 := eq_true p245
         replace q245 := eq_true q245
         go_wp2
         repeat (go_quiet (fail); try go_wp2)
         go_ret
         exact ⟨by first | rfl | (simp [errW_none, errW_some] <;> rfl) | (simp [*, errW_none, errW_some] <;> rfl), kB0 HB⟩
        ·rw [if_neg c14] at H
         have c14b0 : decide ((rd t238 x7_1) < (rd t241 x7_1)) = false := decide_eq_false c14
         clear c14
         by_cases c15 : (rd t238 x7_1) > (rd t241 x7_1)
         ·rw [if_pos c15] at H
          have c15b0 : decide ((rd t241 x7_1) < (rd t238 x7_1)) = true := decide_eq_true c15
          clear c15
          obtain rfl := Option.some.inj H
          have p244 : 0 ≤ (x7_1 : Int) := of_decide_eq_true ka
          have q244 : x7_1 < (t238.length : Int) := of_decide_eq_true ka
          obtain ⟨ad244, e244, hx244_0⟩ := Kd.at_int (Kd.R_reads' HO_5.out).2.2 x7_1 p244 q244
          cases e244
          replace p244 := eq_true p244
          replace q244 := eq_true q244
          have p245 : 0 ≤ (x7_1 : Int) := of_decide_eq_true ka
          have q245 : x7_1 < (t241.length : Int) := of_decide_eq_true ka
          obtain ⟨ad245, e245, hx245_0⟩ := Kd.at_int (Kd.R_reads' HO_6.out).2.2 x7_1 p245 q245
          cases e245
          replace p245 := eq_true p245
          replace q245 := eq_true q245
          have p246 : 0 ≤ (x7_1 : Int) := of_decide_eq_true ka
          have q246 : x7_1 < (t238.length : Int) := of_decide_eq_true ka
          obtain ⟨ad246, e246, hx246_0⟩ := Kd.at_int (Kd.R_reads' HO_5.out).2.2 x7_1 p246 q246
          obtain rfl : ad244 = ad246 := (by injection e246)
          replace p246 := eq_true p246
          replace q246 := eq_true q246
          have p247 : 0 ≤ (x7_1 : Int) := of_decide_eq_true ka
          have q247 : x7_1 < (t241.length : Int) := of_decide_eq_true ka
          obtain ⟨ad247, e247, hx247_0⟩ := Kd.at_int (Kd.R_reads' HO_6.out).2.2 x7_1 p247 q247
          obtain rfl : ad245 = ad247 := (by injection e247)
          replace p247 := eq_true p247
          replace q247 := eq_true q247
          go_wp2
          repeat (go_quiet (fail); try go_wp2)
          go_ret
          exact ⟨by first | rfl | (simp [errW_none, errW_some] <;> rfl) | (simp [*, errW_none, errW_some] <;> rfl), kB0 HB⟩
         ·rw [if_neg c15] at H
          have c15b0 : decide ((rd t241 x7_1) < (rd t238 x7_1)) = false := decide_eq_false c15
          clear c15
          have H' := Aside0.mk H
          clear H
          have p244 : 0 ≤ (x7_1 : Int) := of_decide_eq_true ka
          have q244 : x7_1 < (t238.length : Int) := of_decide_eq_true ka
          obtain ⟨ad244, e244, hx244_0⟩ := Kd.at_int (Kd.R_reads' HO_5.out).2.2 x7_1 p244 q244
          cases e244
          replace p244 := eq_true p244
          replace q244 := eq_true q244
          have p245 : 0 ≤ (x7_1 : Int) := of_decide_eq_true ka
          have q245 : x7_1 < (t241.length : Int) := of_decide_eq_true ka
          obtain ⟨ad245, e245, hx245_0⟩ := Kd.at_int (Kd.R_reads' HO_6.out).2.2 x7_1 p245 q245
          cases e245
          replace p245 := eq_true p245
          replace q245 := eq_true q245
          have p246 : 0 ≤ (x7_1 : Int) := of_decide_eq_true ka
          have q246 : x7_1 < (t238.length : Int) := of_decide_eq_true ka
          obtain ⟨ad246, e246, hx246_0⟩ := Kd.at_int (Kd.R_reads' HO_5.out).2.2 x7_1 p246 q246
          obtain rfl : ad244 = ad246 := (by injection e246)
          replace p246 := eq_true p246
          replace q246 := eq_true q246
          have p247 : 0 ≤ (x7_1 : Int) := of_decide_eq_true ka
          have q247 : x7_1 < (t241.length : Int) := of_decide_eq_true ka
          obtain ⟨ad247, e247, hx247_0⟩ := Kd.at_int (Kd.R_reads' HO_6.out).2.2 x7_1 p247 q247
          obtain rfl : ad245 = ad247 := (by injection e247)
          replace p247 := eq_true p247
          replace q247 := eq_true q247
          go_wp2
          repeat (go_quiet (fail); try go_wp2)
          go_roundg k1
          case measure => have := HK1.out; omega
          case rel => exact ⟨(wrap64 (x7_1 - 1)), kr, H', ⟨by have := HK1.out; omega⟩, ⟨kR HO_5⟩, ⟨kR HO_6⟩, ⟨kB0 HB⟩⟩
       ·rw [if_neg c13] at H
        exact absurd H (by simp)
      ·rw [if_neg c12] at H
       exact absurd H (by simp)
     ·rw [if_neg c11] at H
      exact absurd H (by simp)
    ·rw [if_neg c10] at H
     have c10b0 : decide (0 ≤ x7_1) = false := decide_eq_false c10
     clear c10
     obtain rfl := Option.some.inj H
     go_wp2
     repeat (go_quiet (fail); try go_wp2)
     go_ret
     exact ⟨by first | rfl | (simp [errW_none, errW_some] <;> rfl) | (simp [*, errW_none, errW_some] <;> rfl), kB0 HB⟩
 ·rw [if_neg c5] at H
  have c5b0 : ((t238.length : Int) == (t241.length : Int)) = false := beq_eq_false_iff_ne.mpr c5
  have c5b1 : ((t238.length : Int) != (t241.length : Int)) = true := bne_iff_ne.mpr c5
  have c5b2 : (t238.length == t241.length) = false := by first | simpa using c5 | (simp at c5 ⊢; omega)
  by_cases c16 : (t238.length : Int) < (t241.length : Int)
  ·rw [if_pos c16] at H
   have c16b0 : decide ((t238.length : Int) < (t241.length : Int)) = true := decide_eq_true c16
   have c16b1 : decide (t238.length < t241.length) = true := decide_eq_true (Int.ofNat_lt.mp c16)
   clear c16
   obtain rfl := Option.some.inj H
   go_enter Tryd.func14, Tryd.ntmps14
   go_wp2_with (first | (go_at_call 33; (with_reducible refine (thicketref01_Norm.calls k _ _ l0 t238 _ ?side1 ?side2 A3.out).mono ?_); (case side1 => repeat (first | exact HR0.out | (with_reducible refine Kd.C_alloc ?_ _) | (with_reducible refine Kd.C_drewN ?_ _) | (with_reducible refine Kd.C_drew ?_))); (case side2 => exact HC0.out); rintro e w17 ⟨v239, rfl, ho0, hb⟩; have n0_ := Aside0.mk (Kd.R_lower ho0 (below_size (kB0 HB))); have n1_ := Aside0.mk (below_step (kB0 HB) hb); clear HB; have HO240 := n0_; have HB := n1_; clear n0_ n1_; (try clear hb); (try clear hb2); (try clear hk); (try clear hi); (try clear ho0)) | (go_at_call 33; (with_reducible refine (thicketref01_Norm.calls k _ _ l1 t241 _ ?side1 ?side2 A4.out).mono ?_); (case side1 => repeat (first | exact (Kd.C_below HR1.out HB.out) | (with_reducible refine Kd.C_alloc ?_ _) | (with_reducible refine Kd.C_drewN ?_ _) | (with_reducible refine Kd.C_drew ?_))); (case side2 => exact HC1.out); rintro e w18 ⟨v242, rfl, ho0, hb⟩; have n0_ := Aside0.mk (Kd.R_elder' (kR HO240) (Kd.R_base ho0) hb); have n1_ := Aside0.mk (Kd.R_lower (Kd.R_new' ho0 (Kd.R_lt (kR HO240))) (below_size (kB0 HB))); have n2_ := Aside0.mk (below_step (kB0 HB) hb); clear HO240; clear HB; have HO240 := n0_; have HO243 := n1_; have HB := n2_; clear n0_ n1_ n2_; (try clear hb); (try clear hb2); (try clear hk); (try clear hi); (try clear ho0); obtain ⟨Ao19, co19, eo19⟩ := Kd.R_slice HO240.out; subst eo19; obtain ⟨Ao20, co20, eo20⟩ := Kd.R_slice HO243.out; subst eo20))
   repeat (go_quiet (first | (go_at_call 33; (with_reducible refine (thicketref01_Norm.calls k _ _ l0 t238 _ ?side1 ?side2 A3.out).mono ?_); (case side1 => repeat (first | exact HR0.out | (with_reducible refine Kd.C_alloc ?_ _) | (with_reducible refine Kd.C_drewN ?_ _) | (with_reducible refine Kd.C_drew ?_))); (case side2 => exact HC0.out); rintro e w17 ⟨v239, rfl, ho0, hb⟩; have n0_ := Aside0.mk (Kd.R_lower ho0 (below_size (kB0 HB))); have n1_ := Aside0.mk (below_step (kB0 HB) hb); clear HB; have HO240 := n0_; have HB := n1_; clear n0_ n1_; (try clear hb); (try clear hb2); (try clear hk); (try clear hi); (try clear ho0)) | (go_at_call 33; (with_reducible refine (thicketref01_Norm.calls k _ _ l1 t241 _ ?side1 ?side2 A4.out).mono ?_); (case side1 => repeat (first | exact (Kd.C_below HR1.out HB.out) | (with_reducible refine Kd.C_alloc ?_ _) | (with_reducible refine Kd.C_drewN ?_ _) | (with_reducible refine Kd.C_drew ?_))); (case side2 => exact HC1.out); rintro e w18 ⟨v242, rfl, ho0, hb⟩; have n0_ := Aside0.mk (Kd.R_elder' (kR HO240) (Kd.R_base ho0) hb); have n1_ := Aside0.mk (Kd.R_lower (Kd.R_new' ho0 (Kd.R_lt (kR HO240))) (below_size (kB0 HB))); have n2_ := Aside0.mk (below_step (kB0 HB) hb); clear HO240; clear HB; have HO240 := n0_; have HO243 := n1_; have HB := n2_; clear n0_ n1_ n2_; (try clear hb); (try clear hb2); (try clear hk); (try clear hi); (try clear ho0); obtain ⟨Ao19, co19, eo19⟩ := Kd.R_slice HO240.out; subst eo19; obtain ⟨Ao20, co20, eo20⟩ := Kd.R_slice HO243.out; subst eo20)); try go_wp2_with (first | (go_at_call 33; (with_reducible refine (thicketref01_Norm.calls k _ _ l0 t238 _ ?side1 ?side2 A3.out).mono ?_); (case side1 => repeat (first | exact HR0.out | (with_reducible refine Kd.C_alloc ?_ _) | (with_reducible refine Kd.C_drewN ?_ _) | (with_reducible refine Kd.C_drew ?_))); (case side2 => exact HC0.out); rintro e w17 ⟨v239, rfl, ho0, hb⟩; have n0_ := Aside0.mk (Kd.R_lower ho0 (below_size (kB0 HB))); have n1_ := Aside0.mk (below_step (kB0 HB) hb); clear HB; have HO240 := n0_; have HB := n1_; clear n0_ n1_; (try clear hb); (try clear hb2); (try clear hk); (try clear hi); (try clear ho0)) | (go_at_call 33; (with_reducible refine (thicketref01_Norm.calls k _ _ l1 t241 _ ?side1 ?side2 A4.out).mono ?_); (case side1 => repeat (first | exact (Kd.C_below HR1.out HB.out) | (with_reducible refine Kd.C_alloc ?_ _) | (with_reducible refine Kd.C_drewN ?_ _) | (with_reducible refine Kd.C_drew ?_))); (case side2 => exact HC1.out); rintro e w18 ⟨v242, rfl, ho0, hb⟩; have n0_ := Aside0.mk (Kd.R_elder' (kR HO240) (Kd.R_base ho0) hb); have n1_ := Aside0.mk (Kd.R_lower (Kd.R_new' ho0 (Kd.R_lt (kR HO240))) (below_size (kB0 HB))); have n2_ := Aside0.mk (below_step (kB0 HB) hb); clear HO240; clear HB; have HO240 := n0_; have HO243 := n1_; have HB := n2_; clear n0_ n1_ n2_; (try clear hb); (try clear hb2); (try clear hk); (try clear hi); (try clear ho0); obtain ⟨Ao19, co19, eo19⟩ := Kd.R_slice HO240.out; subst eo19; obtain ⟨Ao20, co20, eo20⟩ := Kd.R_slice HO243.out; subst eo20)))
   go_ret
   exact ⟨by first | rfl | (simp [errW_none, errW_some] <;> rfl) | (simp [*, errW_none, errW_some] <;> rfl), kB0 HB⟩
  ·rw [if_neg c16] at H
   have c16b0 : decide ((t238.length : Int) < (t241.length : Int)) = false := decide_eq_false c16
   have c16b1 : decide (t238.length < t241.length) = false := decide_eq_false (fun h => c16 (Int.ofNat_lt.mpr h))
   clear c16
   obtain rfl := Option.some.inj H
   go_enter Tryd.func14, Tryd.ntmps14
   go_wp2_with (first | (go_at_call 33; (with_reducible refine (thicketref01_Norm.calls k _ _ l0 t238 _ ?side1 ?side2 A3.out).mono ?_); (case side1 => repeat (first | exact HR0.out | (with_reducible refine Kd.C_alloc ?_ _) | (with_reducible refine Kd.C_drewN ?_ _) | (with_reducible refine Kd.C_drew ?_))); (case side2 => exact HC0.out); rintro e w21 ⟨v239, rfl, ho0, hb⟩; have n0_ := Aside0.mk (Kd.R_lower ho0 (below_size (kB0 HB))); have n1_ := Aside0.mk (below_step (kB0 HB) hb); clear HB; have HO240 := n0_; have HB := n1_; clear n0_ n1_; (try clear hb); (try clear hb2); (try clear hk); (try clear hi); (try clear ho0)) | (go_at_call 33; (with_reducible refine (thicketref01_Norm.calls k _ _ l1 t241 _ ?side1 ?side2 A4.out).mono ?_); (case side1 => repeat (first | exact (Kd.C_below HR1.out HB.out) | (with_reducible refine Kd.C_alloc ?_ _) | (with_reducible refine Kd.C_drewN ?_ _) | (with_reducible refine Kd.C_drew ?_))); (case side2 => exact HC1.out); rintro e w22 ⟨v242, rfl, ho0, hb⟩; have n0_ := Aside0.mk (Kd.R_elder' (kR HO240) (Kd.R_base ho0) hb); have n1_ := Aside0.mk (Kd.R_lower (Kd.R_new' ho0 (Kd.R_lt (kR HO240))) (below_size (kB0 HB))); have n2_ := Aside0.mk (below_step (kB0 HB) hb); clear HO240; clear HB; have HO240 := n0_; have HO243 := n1_; have HB := n2_; clear n0_ n1_ n2_; (try clear hb); (try clear hb2); (try clear hk); (try clear hi); (try clear ho0); obtain ⟨Ao23, co23, eo23⟩ := Kd.R_slice HO240.out; subst eo23; obtain ⟨Ao24, co24, eo24⟩ := Kd.R_slice HO243.out; subst eo24))
   repeat (go_quiet (first | (go_at_call 33; (with_reducible refine (thicketref01_Norm.calls k _ _ l0 t238 _ ?side1 ?side2 A3.out).mono ?_); (case side1 => repeat (first | exact HR0.out | (with_reducible refine Kd.C_alloc ?_ _) | (with_reducible refine Kd.C_drewN ?_ _) | (with_reducible refine Kd.C_drew ?_))); (case side2 => exact HC0.out); rintro e w21 ⟨v239, rfl, ho0, hb⟩; have n0_ := Aside0.mk (Kd.R_lower ho0 (below_size (kB0 HB))); have n1_ := Aside0.mk (below_step (kB0 HB) hb); clear HB; have HO240 := n0_; have HB := n1_; clear n0_ n1_; (try clear hb); (try clear hb2); (try clear hk); (try clear hi); (try clear ho0)) | (go_at_call 33; (with_reducible refine (thicketref01_Norm.calls k _ _ l1 t241 _ ?side1 ?side2 A4.out).mono ?_); (case side1 => repeat (first | exact (Kd.C_below HR1.out HB.out) | (with_reducible refine Kd.C_alloc ?_ _) | (with_reducible refine Kd.C_drewN ?_ _) | (with_reducible refine Kd.C_drew ?_))); (case side2 => exact HC1.out); rintro e w22 ⟨v242, rfl, ho0, hb⟩; have n0_ := Aside0.mk (Kd.R_elder' (kR HO240) (Kd.R_base ho0) hb); have n1_ := Aside0.mk (Kd.R_lower (Kd.R_new' ho0 (Kd.R_lt (kR HO240))) (below_size (kB0 HB))); have n2_ := Aside0.mk (below_step (kB0 HB) hb); clear HO240; clear HB; have HO240 := n0_; have HO243 := n1_; have HB := n2_; clear n0_ n1_ n2_; (try clear hb); (try clear hb2); (try clear hk); (try clear hi); (try clear ho0); obtain ⟨Ao23, co23, eo23⟩ := Kd.R_slice HO240.out; subst eo23; obtain ⟨Ao24, co24, eo24⟩ := Kd.R_slice HO243.out; subst eo24)); try go_wp2_with (first | (go_at_call 33; (with_reducible refine (thicketref01_Norm.calls k _ _ l0 t238 _ ?side1 ?side2 A3.out).mono ?_); (case side1 => repeat (first | exact HR0.out | (with_reducible refine Kd.C_alloc ?_ _) | (with_reducible refine Kd.C_drewN ?_ _) | (with_reducible refine Kd.C_drew ?_))); (case side2 => exact HC0.out); rintro e w21 ⟨v239, rfl, ho0, hb⟩; have n0_ := Aside0.mk (Kd.R_lower ho0 (below_size (kB0 HB))); have n1_ := Aside0.mk (below_step (kB0 HB) hb); clear HB; have HO240 := n0_; have HB := n1_; clear n0_ n1_; (try clear hb); (try clear hb2); (try clear hk); (try clear hi); (try clear ho0)) | (go_at_call 33; (with_reducible refine (thicketref01_Norm.calls k _ _ l1 t241 _ ?side1 ?side2 A4.out).mono ?_); (case side1 => repeat (first | exact (Kd.C_below HR1.out HB.out) | (with_reducible refine Kd.C_alloc ?_ _) | (with_reducible refine Kd.C_drewN ?_ _) | (with_reducible refine Kd.C_drew ?_))); (case side2 => exact HC1.out); rintro e w22 ⟨v242, rfl, ho0, hb⟩; have n0_ := Aside0.mk (Kd.R_elder' (kR HO240) (Kd.R_base ho0) hb); have n1_ := Aside0.mk (Kd.R_lower (Kd.R_new' ho0 (Kd.R_lt (kR HO240))) (below_size (kB0 HB))); have n2_ := Aside0.mk (below_step (kB0 HB) hb); clear HO240; clear HB; have HO240 := n0_; have HO243 := n1_; have HB := n2_; clear n0_ n1_ n2_; (try clear hb); (try clear hb2); (try clear hk); (try clear hi); (try clear ho0); obtain ⟨Ao23, co23, eo23⟩ := Kd.R_slice HO240.out; subst eo23; obtain ⟨Ao24, co24, eo24⟩ := Kd.R_slice HO243.out; subst eo24)))
   go_ret
   exact ⟨by first | rfl | (simp [errW_none, errW_some] <;> rfl) | (simp [*, errW_none, errW_some] <;> rfl), kB0 HB⟩
-- NOT PRINTED: function 5 (thicketref08_Check)
-- NOT PRINTED: function 15 (rules_first)
-- NOT PRINTED: function 39 (rules_node)
/-! ### trees_inner: function 63 -/
def trees_inner.f (a0_0 : Int) (a0_1 : Int) (a0_2 : Int) (a0_3 : Nat) (l0_4 : List Int) (a0_5 : Int) (a0_6 : Int) (a0_7 : Int) : Option (Bool) := if a0_0 = 2 then (some true) else (some (a0_0 == 3))
set_option maxHeartbeats 8000000 in
set_option maxRecDepth 100000 in
theorem trees_inner.calls (a0_0 : Int) (a0_1 : Int) (a0_2 : Int) (a0_3 : Nat) (A0_4 : Option Addr) (c0_4 : Nat) (l0_4 : List Int) (a0_5 : Int) (a0_6 : Int) (a0_7 : Int) (r : Bool) (w : World) (hr0_4 : Kd.C (Kd.int .i64) w A0_4 l0_4.length l0_4) (hc0_4 : l0_4.length ≤ c0_4) (h : trees_inner.f a0_0 a0_1 a0_2 a0_3 l0_4 a0_5 a0_6 a0_7 = some r) :
  Calls Tryd.prog 63 #[.agg #[.int .u8 a0_0, .int .i64 a0_1, .int .i64 a0_2, .float .f64 a0_3, .slice A0_4 l0_4.length c0_4, .int .u8 a0_5, .int .i64 a0_6, .int .i64 a0_7]] w fun e w' => e = .returned (.bool r) ∧ Below w.heap.size w w' := by
 have hu66 := Tryd.underlying66
 have HR0_4 := Aside0.mk hr0_4
 have HC0_4 := Aside0.mk hc0_4
 clear hr0_4 hc0_4
 have HB := Aside0.mk (Below.refl w.heap.size w)
 have H : (if a0_0 = 2 then (some true) else (some (a0_0 == 3))) = some r := h
 clear h
 by_cases c2 : a0_0 = 2
 ·rw [if_pos c2] at H
  have c2b0 : (a0_0 == 2) = true := beq_iff_eq.mpr c2
  have c2b1 : (a0_0 != 2) = false := bne_eq_false_iff_eq.mpr c2
  clear c2
  obtain rfl := Option.some.inj H
  go_enter Tryd.func63, Tryd.ntmps63
  go_wp2_with (first | ((with_reducible refine gate_dst (N := 1) rfl ?_); refine box_event ?hg (N := 1) ?hd (cs := #[.int .u8 a0_0, .int .i64 a0_1, .int .i64 a0_2, .float .f64 a0_3, .slice A0_4 l0_4.length c0_4, .int .u8 a0_5, .int .i64 a0_6, .int .i64 a0_7]) (t := 66) ?hr ?_; (case hd => rfl); (case hg => rfl); (case hr => first | (go_simp; done) | (go_simp; rfl)); intro gb252 hg w3 hbox hb; have n0_ := Aside0.mk (below_step (kB0 HB) hb); have n1_ := Aside0.mk (hbox); have n2_ := Aside0.mk ((kg hg (kB0 HB) : w.heap.size ≤ gb252)); have n3_ := Aside0.mk ((kg hg (kB0 HB) : w.heap.size ≤ gb252)); clear HB; have HB := n0_; have BK252 := n1_; have GW252 := n2_; have GE252 := n3_; clear n0_ n1_ n2_ n3_; clear hb hbox hg; have hcz4 := blk8 (w := w3) BK252.out))
  go_ret
  exact ⟨by first | rfl | (simp [errW_none, errW_some] <;> rfl) | (simp [*, errW_none, errW_some] <;> rfl), kB1 HB GE252⟩
 ·rw [if_neg c2] at H
  have c2b0 : (a0_0 == 2) = false := beq_eq_false_iff_ne.mpr c2
  have c2b1 : (a0_0 != 2) = true := bne_iff_ne.mpr c2
  obtain rfl := Option.some.inj H
  go_enter Tryd.func63, Tryd.ntmps63
  go_wp2_with (first | ((with_reducible refine gate_dst (N := 1) rfl ?_); refine box_event ?hg (N := 1) ?hd (cs := #[.int .u8 a0_0, .int .i64 a0_1, .int .i64 a0_2, .float .f64 a0_3, .slice A0_4 l0_4.length c0_4, .int .u8 a0_5, .int .i64 a0_6, .int .i64 a0_7]) (t := 66) ?hr ?_; (case hd => rfl); (case hg => rfl); (case hr => first | (go_simp; done) | (go_simp; rfl)); intro gb252 hg w5 hbox hb; have n0_ := Aside0.mk (below_step (kB0 HB) hb); have n1_ := Aside0.mk (hbox); have n2_ := Aside0.mk ((kg hg (kB0 HB) : w.heap.size ≤ gb252)); have n3_ := Aside0.mk ((kg hg (kB0 HB) : w.heap.size ≤ gb252)); clear HB; have HB := n0_; have BK252 := n1_; have GW252 := n2_; have GE252 := n3_; clear n0_ n1_ n2_ n3_; clear hb hbox hg; have hcz6 := blk8 (w := w5) BK252.out))
  go_ret
  exact ⟨by first | rfl | (simp [errW_none, errW_some] <;> rfl) | (simp [*, errW_none, errW_some] <;> rfl), kB1 HB GE252⟩
end Go.Proofs.YtkemfbocojoagaaDoor.FAll
