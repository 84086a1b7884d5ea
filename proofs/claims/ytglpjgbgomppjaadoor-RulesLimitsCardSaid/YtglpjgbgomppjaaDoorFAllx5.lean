-- written by fprint.sh, a program of ours over the kit's print: not by hand
import Derived.Test.YtglpjgbgomppjaaDoorFAllx0
import Derived.Test.YtglpjgbgomppjaaDoorFAllx4
namespace Go.Proofs.YtglpjgbgomppjaaDoor.FAll
open Go.RowKit Go.Proofs.YtglpjgbgomppjaaDoorW.PrintWords Go.Proofs.YtglpjgbgomppjaaDoorW.PrintLast Go.Proofs.YtglpjgbgomppjaaDoorW.PrintMore
attribute [local go_sem] feq_walk fne_walk flt_walk fle_walk fgt_walk fge_walk fint_walk fstore_walk run_f64bits max2_int min2_int max_two min_two max_three min_three max_four min_four   -- for this text's walks alone
set_option linter.unusedVariables false
set_option linter.unusedSimpArgs false
/-! ### thicketref08_Room: function 11 -/
mutual
def thicketref08_Room.j0 : Nat → Int → Bool → ByteArray → List ByteArray → Int → List Int → List (S33) → Option (List Int × Int)
 | 0, _, _, _, _, _, _, _ => none
 | k + 1, x1, x18, x234000, x234001, x234002, x234003, x234004 => if x18 = true then (some (([] : List Int), 2)) else (if 0 ≤ x1 then (if x1 < (x234003.length : Int) then ((thicketref08_amount.f (rd x234003 x1)).bind fun t235 => (thicketref08_Room.l0 k x1 t235 0 0 x234000 x234001 x234002 x234003 x234004)) else (none)) else (none))
def thicketref08_Room.l0 : Nat → Int → Int → Int → Int → ByteArray → List ByteArray → Int → List Int → List (S33) → Option (List Int × Int)
 | 0, _, _, _, _, _, _, _, _, _ => none
 | k + 1, x1, x6, x7, x8, x234000, x234001, x234002, x234003, x234004 => if x8 < (x234004.length : Int) then (if 0 ≤ x8 then (if ((rd_T33 x234004 x8).f0) = x1 then ((thicketref08_Largest.f k ((rd_T33 x234004 x8).f0) ((rd_T33 x234004 x8).f1)).bind fun t244 => (if (IntKind.u64.wrap (x6 + t244)) < t244 then (thicketref08_Room.l0 k x1 (IntKind.u64.wrap (x6 + t244)) (IntKind.u64.wrap (x7 + 1)) (wrap64 (x8 + 1)) x234000 x234001 x234002 x234003 x234004) else (thicketref08_Room.l0 k x1 (IntKind.u64.wrap (x6 + t244)) x7 (wrap64 (x8 + 1)) x234000 x234001 x234002 x234003 x234004))) else (thicketref08_Room.l0 k x1 x6 x7 (wrap64 (x8 + 1)) x234000 x234001 x234002 x234003 x234004)) else (none)) else ((thicketref01_Norm.f k (([(Go.bits .and .u64 x6 4294967295) % 4294967296, (x6 / 4294967296) % 4294967296, (Go.bits .and .u64 x7 4294967295) % 4294967296, (x7 / 4294967296) % 4294967296] : List Int))).bind fun t239 => (some (t239, 0)))
end
def thicketref08_Room.f (k : Nat) (a0_0 : ByteArray) (l0_1 : List ByteArray) (a0_2 : Int) (l0_3 : List Int) (l0_4 : List (S33)) (a1 : Int) : Option (List Int × Int) := if a1 < 0 then (thicketref08_Room.j0 k a1 true a0_0 l0_1 a0_2 l0_3 l0_4) else (thicketref08_Room.j0 k a1 (decide (a1 ≥ (l0_3.length : Int))) a0_0 l0_1 a0_2 l0_3 l0_4)
theorem thicketref08_Room.mono_l : ∀ k, (∀ y0 y1 y2 y3 y4 y5 y6, LeO (thicketref08_Room.j0 k y0 y1 y2 y3 y4 y5 y6) (thicketref08_Room.j0 (k + 1) y0 y1 y2 y3 y4 y5 y6)) ∧ (∀ y0 y1 y2 y3 y4 y5 y6 y7 y8, LeO (thicketref08_Room.l0 k y0 y1 y2 y3 y4 y5 y6 y7 y8) (thicketref08_Room.l0 (k + 1) y0 y1 y2 y3 y4 y5 y6 y7 y8))
 | 0 => ⟨fun _ _ _ _ _ _ _ r h => by simp [thicketref08_Room.j0] at h, fun _ _ _ _ _ _ _ _ _ r h => by simp [thicketref08_Room.l0] at h⟩
 | k + 1 => by
  obtain ⟨ih0, ih1⟩ := thicketref08_Room.mono_l k
  refine ⟨?_, ?_⟩
  ·intro y0 y1 y2 y3 y4 y5 y6
   unfold thicketref08_Room.j0
   repeat' first
   | (with_reducible exact ih0 _ _ _ _ _ _ _)
   | (with_reducible exact ih1 _ _ _ _ _ _ _ _ _)
   | (with_reducible exact thicketref01_Norm.mono _ _)
   | (with_reducible exact thicketref08_Largest.mono _ _ _)
   | (with_reducible exact LeO.refl _)
   | (with_reducible exact LeO.none _)
   | (with_reducible refine LeO.ite ?_ ?_)
   | (with_reducible refine LeO.bind ?_ (fun _ => ?_))
   | exact ih0 _ _ _ _ _ _ _
   | exact ih1 _ _ _ _ _ _ _ _ _
   | exact thicketref01_Norm.mono _ _
   | exact thicketref08_Largest.mono _ _ _
   | exact LeO.none _
   | refine LeO.ite ?_ ?_
   | refine LeO.bind ?_ (fun _ => ?_)
  ·intro y0 y1 y2 y3 y4 y5 y6 y7 y8
   unfold thicketref08_Room.l0
   repeat' first
   | (with_reducible exact ih0 _ _ _ _ _ _ _)
   | (with_reducible exact ih1 _ _ _ _ _ _ _ _ _)
   | (with_reducible exact thicketref01_Norm.mono _ _)
   | (with_reducible exact thicketref08_Largest.mono _ _ _)
   | (with_reducible exact LeO.refl _)
   | (with_reducible exact LeO.none _)
   | (with_reducible refine LeO.ite ?_ ?_)
   | (with_reducible refine LeO.bind ?_ (fun _ => ?_))
   | exact ih0 _ _ _ _ _ _ _
   | exact ih1 _ _ _ _ _ _ _ _ _
   | exact thicketref01_Norm.mono _ _
   | exact thicketref08_Largest.mono _ _ _
   | exact LeO.none _
   | refine LeO.ite ?_ ?_
   | refine LeO.bind ?_ (fun _ => ?_)
theorem thicketref08_Room.mono : ∀ a0 a1 a2 a3 a4 a5 k, LeO (thicketref08_Room.f k a0 a1 a2 a3 a4 a5) (thicketref08_Room.f (k + 1) a0 a1 a2 a3 a4 a5) := by
 intro a0 a1 a2 a3 a4 a5 k
 obtain ⟨ih0, ih1⟩ := thicketref08_Room.mono_l k
 unfold thicketref08_Room.f
 repeat' first
   | (with_reducible exact ih0 _ _ _ _ _ _ _)
   | (with_reducible exact ih1 _ _ _ _ _ _ _ _ _)
   | (with_reducible exact thicketref01_Norm.mono _ _)
   | (with_reducible exact thicketref08_Largest.mono _ _ _)
   | (with_reducible exact LeO.refl _)
   | (with_reducible exact LeO.none _)
   | (with_reducible refine LeO.ite ?_ ?_)
   | (with_reducible refine LeO.bind ?_ (fun _ => ?_))
   | exact ih0 _ _ _ _ _ _ _
   | exact ih1 _ _ _ _ _ _ _ _ _
   | exact thicketref01_Norm.mono _ _
   | exact thicketref08_Largest.mono _ _ _
   | exact LeO.none _
   | refine LeO.ite ?_ ?_
   | refine LeO.bind ?_ (fun _ => ?_)
set_option maxHeartbeats 8000000 in
set_option maxRecDepth 100000 in
theorem thicketref08_Room.calls (k : Nat) (a0_0 : ByteArray) (A0_1 : Option Addr) (c0_1 : Nat) (l0_1 : List ByteArray) (a0_2 : Int) (A0_3 : Option Addr) (c0_3 : Nat) (l0_3 : List Int) (A0_4 : Option Addr) (c0_4 : Nat) (l0_4 : List (S33)) (a1 : Int) (r1 : List Int) (r2 : Int) (w : World) (hr0_1 : Kd.C Kd.string w A0_1 l0_1.length l0_1) (hc0_1 : l0_1.length ≤ c0_1) (hr0_3 : Kd.C (Kd.int .i64) w A0_3 l0_3.length l0_3) (hc0_3 : l0_3.length ≤ c0_3) (hr0_4 : Kd.C k33 w A0_4 l0_4.length l0_4) (hc0_4 : l0_4.length ≤ c0_4) (h : thicketref08_Room.f k a0_0 l0_1 a0_2 l0_3 l0_4 a1 = some (r1, r2)) :
  Calls Tryd.prog 11 #[.agg #[.string a0_0, .slice A0_1 l0_1.length c0_1, .int .i64 a0_2, .slice A0_3 l0_3.length c0_3, .slice A0_4 l0_4.length c0_4], .int .i64 a1] w fun e w' => ∃ v0_ : Value, e = .returned (.tuple #[v0_, .int .i64 r2]) ∧ Kd.R (Kd.int .u32) 50 w' w.heap.size (fun _ => True) v0_ r1 ∧ Below w.heap.size w w' := by
 have hu26 := Tryd.underlying26
 have hu33 := Tryd.underlying33
 have HR0_1 := Aside0.mk hr0_1
 have HC0_1 := Aside0.mk hc0_1
 clear hr0_1 hc0_1
 have HR0_3 := Aside0.mk hr0_3
 have HC0_3 := Aside0.mk hc0_3
 clear hr0_3 hc0_3
 have HR0_4 := Aside0.mk hr0_4
 have HC0_4 := Aside0.mk hc0_4
 clear hr0_4 hc0_4
 have HB := Aside0.mk (Below.refl w.heap.size w)
 have H : (if a1 < 0 then (thicketref08_Room.j0 k a1 true a0_0 l0_1 a0_2 l0_3 l0_4) else (thicketref08_Room.j0 k a1 (decide (a1 ≥ (l0_3.length : Int))) a0_0 l0_1 a0_2 l0_3 l0_4)) = some (r1, r2) := h
 clear h
 have HC3 := Aside0.mk H
 clear H
 go_enter Tryd.func11, Tryd.ntmps11
 go_upto_region 1 with (first | ((with_reducible refine gate_dst (N := 2) rfl ?_); (try (refine gate_guard (by rfl) ?_; dsimp only)); refine box_event ?hg (N := 2) ?hd (cs := #[.string a0_0, .slice A0_1 l0_1.length c0_1, .int .i64 a0_2, .slice A0_3 l0_3.length c0_3, .slice A0_4 l0_4.length c0_4]) (t := 26) ?hr ?_; (case hd => rfl); (case hg => rfl); (case hr => first | (go_simp; done) | (go_simp; rfl)); intro gb233 hg w4 hbox hb; have n0_ := Aside0.mk (below_step (kB0 HB) hb); have n1_ := Aside0.mk (hbox); have n2_ := Aside0.mk ((kg hg (kB0 HB) : w.heap.size ≤ gb233)); have n3_ := Aside0.mk ((kg hg (kB0 HB) : w.heap.size ≤ gb233)); clear HB; have HB := n0_; have BK233 := n1_; have GW233 := n2_; have GE233 := n3_; clear n0_ n1_ n2_ n3_; clear hb hbox hg))
 (try simp only [Act.put, List.setIfInBounds_toArray, List.set_cons_zero, List.set_cons_succ])
 go_cut [18] (fun v18 wc => ∃ (kq : Nat) (x18_2 : Bool), v18 = .bool x18_2 ∧ Aside0 (thicketref08_Room.j0 kq a1 x18_2 a0_0 l0_1 a0_2 l0_3 l0_4 = some (r1, r2)) ∧ Aside0 (kq ≤ k) ∧ Aside0 (wc.heap[gb233]? = some (.cells #[.string a0_0, (.slice A0_1 l0_1.length c0_1), .int .i64 a0_2, (.slice A0_3 l0_3.length c0_3), (.slice A0_4 l0_4.length c0_4)] 26 (0, 0))) ∧ Aside0 (Below w.heap.size w wc))
 case first =>
  have H := HC3.out
  clear HC3
  by_cases c5 : a1 < 0
  ·rw [if_pos c5] at H
   have c5b0 : decide (a1 < 0) = true := decide_eq_true c5
   clear c5
   (first | rw [c5b0] | (simp only [i64_w, i32_w]; rw [c5b0]) | skip)
   have H' := Aside0.mk H
   clear H
   go_wp2
   go_meet
   case rel => exact ⟨_, (true), kr, H', ⟨ko⟩, ⟨kb BK233⟩, ⟨kB1 HB GE233⟩⟩
  ·rw [if_neg c5] at H
   have c5b0 : decide (a1 < 0) = false := decide_eq_false c5
   clear c5
   (first | rw [c5b0] | (simp only [i64_w, i32_w]; rw [c5b0]) | skip)
   have H' := Aside0.mk H
   clear H
   have hcz6 := blk5 (w := w4) BK233.out
   go_wp2
   go_meet
   case rel => exact ⟨_, (decide (a1 ≥ (l0_3.length : Int))), kr, H', ⟨ko⟩, ⟨kb BK233⟩, ⟨kB1 HB GE233⟩⟩
 case rest =>
  clear HC3
  try clear c1
  try clear p2
  try clear c5
  try clear c5b0
  try clear hcz6
  obtain ⟨kq, x18_2, rfl, HA, HJ2, BK233, HB⟩ := hcut
  cases kq with
  | zero => exact absurd HA.out (by simp [thicketref08_Room.j0])
  | succ kj2 =>
   have H := HA.out
   clear HA
   simp only [thicketref08_Room.j0] at H
   by_cases c7 : x18_2 = true
   ·subst c7
    have H1 : (some (([] : List Int), 2)) = some (r1, r2) := by rw [if_pos rfl] at H; exact H
    clear H
    have H := H1
    clear H1
    simp only [Option.some.injEq, Prod.mk.injEq] at H
    obtain ⟨rfl, rfl⟩ := H
    go_wp2
    go_ret2
    exact ⟨_, by first | rfl | (simp [errW_none, errW_some] <;> rfl) | (simp [*, errW_none, errW_some] <;> rfl), by first | exact Kd.R_nil _ _ _ _ _ | exact Kd.N_nil _ _ _ _ _ | exact Kd.V_nil _ _ _ _ _ | exact Kd.Q_nil _ _ _ _ _ | exact Kd.S_nil _ _ _ _ _, kB1 HB GE233⟩
   ·replace c7 := Bool.eq_false_iff.mpr c7
    subst c7
    have H1 : (if 0 ≤ a1 then (if a1 < (l0_3.length : Int) then ((thicketref08_amount.f (rd l0_3 a1)).bind fun t235 => (thicketref08_Room.l0 kj2 a1 t235 0 0 a0_0 l0_1 a0_2 l0_3 l0_4)) else (none)) else (none)) = some (r1, r2) := by rw [if_neg (show ¬ (false = true) by decide)] at H; exact H
    clear H
    have H := H1
    clear H1
    by_cases c8 : 0 ≤ a1
    ·rw [if_pos c8] at H
     have c8b0 : decide (0 ≤ a1) = true := decide_eq_true c8
     clear c8
     by_cases c9 : a1 < (l0_3.length : Int)
     ·rw [if_pos c9] at H
      have c9b0 : decide (a1 < (l0_3.length : Int)) = true := decide_eq_true c9
      clear c9
      replace H := Option.bind_eq_some_iff.mp H
      obtain ⟨t235, A100, H⟩ := H
      replace H : (thicketref08_Room.l0 kj2 a1 t235 0 0 a0_0 l0_1 a0_2 l0_3 l0_4) = some (r1, r2) := H
      have A10 := Aside0.mk A100
      clear A100
      have H' := Aside0.mk H
      clear H
      have hcz11 := blk5 (w := wc) BK233.out
      have p234 : 0 ≤ (a1 : Int) := of_decide_eq_true ka
      have q234 : a1 < (l0_3.length : Int) := of_decide_eq_true ka
      obtain ⟨ad234, e234, hx234_0⟩ := Kd.at_int HR0_3.out a1 p234 q234
      cases e234
      replace hx234_0 := (HB.out.cell (World.block_lt_of_cell? w _ hx234_0)).trans hx234_0
      replace p234 := eq_true p234
      replace q234 := eq_true q234
      go_wp2_with (first | ((with_reducible refine gate_callee (f := 19) rfl ?_); refine goesL_ (some 24) rfl rfl Tryd.func19 (by kernel_rfl) rfl #[.int .i64 (rd l0_3 a1)] rfl (by (try simp only [List.map_toArray, List.map_cons, List.map_nil]); first | done | rfl | (simp only [List.length_drop, List.length_take]; rfl)) ?_; (with_reducible refine (thicketref08_amount.calls (rd l0_3 a1) t235 _ A10.out).mono ?_); rintro e w' ⟨rfl, ⟨nd, rfl⟩⟩; refine ⟨_, rfl, ?_⟩))
      go_loopg [6, 7, 8] kj2 (fun kq v6 v7 v8 w' => ∃ (x6_2 : Int) (x7_2 : Int) (x8_2 : Int), v6 = .int .u64 x6_2 ∧ v7 = .int .u64 x7_2 ∧ v8 = .int .i64 x8_2 ∧ Aside0 (thicketref08_Room.l0 kq a1 x6_2 x7_2 x8_2 a0_0 l0_1 a0_2 l0_3 l0_4 = some (r1, r2)) ∧ Aside0 (kq ≤ kj2) ∧ Aside0 (w'.heap[gb233]? = some (.cells #[.string a0_0, (.slice A0_1 l0_1.length c0_1), .int .i64 a0_2, (.slice (some ad234) l0_3.length c0_3), (.slice A0_4 l0_4.length c0_4)] 26 (0, 0))) ∧ Aside0 (Below w.heap.size w w'))
      case atStart => exact ⟨(t235), (0), (0), kr, kr, kr, H', ⟨Nat.le_refl _⟩, ⟨kb BK233⟩, ⟨kB1 HB GE233⟩⟩
      case round =>
       clear H'
       try clear c1
       try clear p2
       try clear q2
       try clear hx2
       try clear c5
       try clear c5b0
       try clear c7
       try clear c8
       try clear c8b0
       try clear c9
       try clear c9b0
       try clear c11
       try clear hcz11
       try clear hcz6
       try clear hx234_0
       try clear p234
       try clear q234
       obtain ⟨x6_2, x7_2, x8_2, rfl, rfl, rfl, HA, HK2, BK233, HB⟩ := hrel
       cases gk with
       | zero => exact absurd HA.out (by simp [thicketref08_Room.l0])
       | succ k2 =>
        have H := HA.out
        clear HA
        simp only [thicketref08_Room.l0] at H
        by_cases c12 : x8_2 < (l0_4.length : Int)
        ·rw [if_pos c12] at H
         have c12b0 : decide (x8_2 < (l0_4.length : Int)) = true := decide_eq_true c12
         clear c12
         by_cases c13 : 0 ≤ x8_2
         ·rw [if_pos c13] at H
          have c13b0 : decide (0 ≤ x8_2) = true := decide_eq_true c13
          clear c13
          by_cases c14 : ((rd_T33 l0_4 x8_2).f0) = a1
          ·rw [if_pos c14] at H
           have c14b0 : (((rd_T33 l0_4 x8_2).f0) == a1) = true := beq_iff_eq.mpr c14
           have c14b1 : (((rd_T33 l0_4 x8_2).f0) != a1) = false := bne_eq_false_iff_eq.mpr c14
           clear c14
           replace H := Option.bind_eq_some_iff.mp H
           obtain ⟨t244, A150, H⟩ := H
           replace H : (if (IntKind.u64.wrap (x6_2 + t244)) < t244 then (thicketref08_Room.l0 k2 a1 (IntKind.u64.wrap (x6_2 + t244)) (IntKind.u64.wrap (x7_2 + 1)) (wrap64 (x8_2 + 1)) a0_0 l0_1 a0_2 l0_3 l0_4) else (thicketref08_Room.l0 k2 a1 (IntKind.u64.wrap (x6_2 + t244)) x7_2 (wrap64 (x8_2 + 1)) a0_0 l0_1 a0_2 l0_3 l0_4)) = some (r1, r2) := H
           have A15 := Aside0.mk A150
           clear A150
           by_cases c16 : (IntKind.u64.wrap (x6_2 + t244)) < t244
           ·rw [if_pos c16] at H
            have c16b0 : decide ((IntKind.u64.wrap (x6_2 + t244)) < t244) = true := decide_eq_true c16
            clear c16
            have H' := Aside0.mk H
            clear H
            have hcz17 := blk5 (w := wr) BK233.out
            have p242 : 0 ≤ (x8_2 : Int) := of_decide_eq_true ka
            have q242 : x8_2 < (l0_4.length : Int) := of_decide_eq_true ka
            obtain ⟨ad242, A242_1, c242_1, e242, hx242_0, hx242_1, hl242_1, hi242_1⟩ := at_T33 HR0_4.out x8_2 p242 q242
            cases e242
            replace hx242_0 := (HB.out.cell (World.block_lt_of_cell? w _ hx242_0)).trans hx242_0
            replace hx242_1 := (HB.out.cell (World.block_lt_of_cell? w _ hx242_1)).trans hx242_1
            have HR242_1 := Aside0.mk hi242_1
            have HC242_1 := Aside0.mk hl242_1
            clear hi242_1 hl242_1
            replace p242 := eq_true p242
            replace q242 := eq_true q242
            have p243 : 0 ≤ (x8_2 : Int) := of_decide_eq_true ka
            have q243 : x8_2 < (l0_4.length : Int) := of_decide_eq_true ka
            obtain ⟨ad243, A243_1, c243_1, e243, hx243_0, hx243_1, hl243_1, hi243_1⟩ := at_T33 HR0_4.out x8_2 p243 q243
            obtain rfl : ad242 = ad243 := (by injection e243)
            replace hx243_0 := (HB.out.cell (World.block_lt_of_cell? w _ hx243_0)).trans hx243_0
            replace hx243_1 := (HB.out.cell (World.block_lt_of_cell? w _ hx243_1)).trans hx243_1
            have HR243_1 := Aside0.mk hi243_1
            have HC243_1 := Aside0.mk hl243_1
            clear hi243_1 hl243_1
            replace p243 := eq_true p243
            replace q243 := eq_true q243
            have ea_ := Option.some.inj (hx242_1.symm.trans hx243_1)
            injection ea_ with ea_ en_ ec_
            subst ea_
            subst ec_
            clear en_
            go_wp2_with (first | ((with_reducible refine gate_callee (f := 14) rfl ?_); refine goesL_ (some 45) rfl rfl Tryd.func14 (by kernel_rfl) rfl #[.agg #[.int .i64 ((rd_T33 l0_4 x8_2).f0), .slice A242_1 ((rd_T33 l0_4 x8_2).f1).length c242_1]] rfl (by (try simp only [List.map_toArray, List.map_cons, List.map_nil]); first | done | rfl | (simp only [List.length_drop, List.length_take]; rfl)) ?_; (with_reducible refine (thicketref08_Largest.calls k2 ((rd_T33 l0_4 x8_2).f0) _ _ ((rd_T33 l0_4 x8_2).f1) t244 _ ?side1 ?side2 A15.out).mono ?_); (case side1 => repeat (first | exact (Kd.C_below HR243_1.out HB.out) | (with_reducible refine Kd.C_alloc ?_ _) | (with_reducible refine Kd.C_drewN ?_ _) | (with_reducible refine Kd.C_drew ?_))); (case side2 => exact HC243_1.out); rintro e w18 ⟨rfl, hb⟩; refine ⟨_, rfl, ?_⟩; have n0_ := Aside0.mk (blk_below (g := gb233) (o := .cells #[.string a0_0, .slice A0_1 l0_1.length c0_1, .int .i64 a0_2, .slice (some ad234) l0_3.length c0_3, .slice (some ad242) l0_4.length c0_4] 26 (0, 0)) (kb BK233) hb); have n1_ := Aside0.mk (below_step (kB1 HB GE233) hb); clear BK233; clear HB; have BK233 := n0_; have HB := n1_; clear n0_ n1_; (try clear hb); (try clear hb2); (try clear hk); (try clear hi)))
            go_roundg k2
            case measure => have := HJ2.out; have := HK2.out; omega
            case rel => exact ⟨(IntKind.u64.wrap (x6_2 + t244)), (IntKind.u64.wrap (x7_2 + 1)), (wrap64 (x8_2 + 1)), kr, kr, kr, H', ⟨by have := HJ2.out; have := HK2.out; omega⟩, ⟨kb BK233⟩, ⟨kB1 HB GE233⟩⟩
           ·rw [if_neg c16] at H
            have c16b0 : decide ((IntKind.u64.wrap (x6_2 + t244)) < t244) = false := decide_eq_false c16
            clear c16
            have H' := Aside0.mk H
            clear H
            have hcz19 := blk5 (w := wr) BK233.out
            have p242 : 0 ≤ (x8_2 : Int) := of_decide_eq_true ka
            have q242 : x8_2 < (l0_4.length : Int) := of_decide_eq_true ka
            obtain ⟨ad242, A242_1, c242_1, e242, hx242_0, hx242_1, hl242_1, hi242_1⟩ := at_T33 HR0_4.out x8_2 p242 q242
            cases e242
            replace hx242_0 := (HB.out.cell (World.block_lt_of_cell? w _ hx242_0)).trans hx242_0
            replace hx242_1 := (HB.out.cell (World.block_lt_of_cell? w _ hx242_1)).trans hx242_1
            have HR242_1 := Aside0.mk hi242_1
            have HC242_1 := Aside0.mk hl242_1
            clear hi242_1 hl242_1
            replace p242 := eq_true p242
            replace q242 := eq_true q242
            have p243 : 0 ≤ (x8_2 : Int) := of_decide_eq_true ka
            have q243 : x8_2 < (l0_4.length : Int) := of_decide_eq_true ka
            obtain ⟨ad243, A243_1, c243_1, e243, hx243_0, hx243_1, hl243_1, hi243_1⟩ := at_T33 HR0_4.out x8_2 p243 q243
            obtain rfl : ad242 = ad243 := (by injection e243)
            replace hx243_0 := (HB.out.cell (World.block_lt_of_cell? w _ hx243_0)).trans hx243_0
            replace hx243_1 := (HB.out.cell (World.block_lt_of_cell? w _ hx243_1)).trans hx243_1
            have HR243_1 := Aside0.mk hi243_1
            have HC243_1 := Aside0.mk hl243_1
            clear hi243_1 hl243_1
            replace p243 := eq_true p243
            replace q243 := eq_true q243
            have ea_ := Option.some.inj (hx242_1.symm.trans hx243_1)
            injection ea_ with ea_ en_ ec_
            subst ea_
            subst ec_
            clear en_
            go_wp2_with (first | ((with_reducible refine gate_callee (f := 14) rfl ?_); refine goesL_ (some 45) rfl rfl Tryd.func14 (by kernel_rfl) rfl #[.agg #[.int .i64 ((rd_T33 l0_4 x8_2).f0), .slice A242_1 ((rd_T33 l0_4 x8_2).f1).length c242_1]] rfl (by (try simp only [List.map_toArray, List.map_cons, List.map_nil]); first | done | rfl | (simp only [List.length_drop, List.length_take]; rfl)) ?_; (with_reducible refine (thicketref08_Largest.calls k2 ((rd_T33 l0_4 x8_2).f0) _ _ ((rd_T33 l0_4 x8_2).f1) t244 _ ?side1 ?side2 A15.out).mono ?_); (case side1 => repeat (first | exact (Kd.C_below HR243_1.out HB.out) | (with_reducible refine Kd.C_alloc ?_ _) | (with_reducible refine Kd.C_drewN ?_ _) | (with_reducible refine Kd.C_drew ?_))); (case side2 => exact HC243_1.out); rintro e w20 ⟨rfl, hb⟩; refine ⟨_, rfl, ?_⟩; have n0_ := Aside0.mk (blk_below (g := gb233) (o := .cells #[.string a0_0, .slice A0_1 l0_1.length c0_1, .int .i64 a0_2, .slice (some ad234) l0_3.length c0_3, .slice (some ad242) l0_4.length c0_4] 26 (0, 0)) (kb BK233) hb); have n1_ := Aside0.mk (below_step (kB1 HB GE233) hb); clear BK233; clear HB; have BK233 := n0_; have HB := n1_; clear n0_ n1_; (try clear hb); (try clear hb2); (try clear hk); (try clear hi)))
            go_roundg k2
            case measure => have := HJ2.out; have := HK2.out; omega
            case rel => exact ⟨(IntKind.u64.wrap (x6_2 + t244)), (x7_2), (wrap64 (x8_2 + 1)), kr, kr, kr, H', ⟨by have := HJ2.out; have := HK2.out; omega⟩, ⟨kb BK233⟩, ⟨kB1 HB GE233⟩⟩
          ·rw [if_neg c14] at H
           have c14b0 : (((rd_T33 l0_4 x8_2).f0) == a1) = false := beq_eq_false_iff_ne.mpr c14
           have c14b1 : (((rd_T33 l0_4 x8_2).f0) != a1) = true := bne_iff_ne.mpr c14
           have H' := Aside0.mk H
           clear H
           have hcz21 := blk5 (w := wr) BK233.out
           have p242 : 0 ≤ (x8_2 : Int) := of_decide_eq_true ka
           have q242 : x8_2 < (l0_4.length : Int) := of_decide_eq_true ka
           obtain ⟨ad242, A242_1, c242_1, e242, hx242_0, hx242_1, hl242_1, hi242_1⟩ := at_T33 HR0_4.out x8_2 p242 q242
           cases e242
           replace hx242_0 := (HB.out.cell (World.block_lt_of_cell? w _ hx242_0)).trans hx242_0
           replace hx242_1 := (HB.out.cell (World.block_lt_of_cell? w _ hx242_1)).trans hx242_1
           have HR242_1 := Aside0.mk hi242_1
           have HC242_1 := Aside0.mk hl242_1
           clear hi242_1 hl242_1
           replace p242 := eq_true p242
           replace q242 := eq_true q242
           go_wp2
           go_roundg k2
           case measure => have := HJ2.out; have := HK2.out; omega
           case rel => exact ⟨(x6_2), (x7_2), (wrap64 (x8_2 + 1)), kr, kr, kr, H', ⟨by have := HJ2.out; have := HK2.out; omega⟩, ⟨kb BK233⟩, ⟨kB1 HB GE233⟩⟩
         ·rw [if_neg c13] at H
          exact absurd H (by simp)
        ·rw [if_neg c12] at H
         have c12b0 : decide (x8_2 < (l0_4.length : Int)) = false := decide_eq_false c12
         clear c12
         obtain ⟨y236, hy236⟩ : ∃ y_ : List Int, y_ = (([(Go.bits .and .u64 x6_2 4294967295) % 4294967296, (x6_2 / 4294967296) % 4294967296, (Go.bits .and .u64 x7_2 4294967295) % 4294967296, (x7_2 / 4294967296) % 4294967296] : List Int)) := ⟨_, rfl⟩
         replace H : ((thicketref01_Norm.f k2 y236).bind fun t239 => (some (t239, 0))) = some (r1, r2) := by first | (rw [hy236]; with_reducible exact H) | (have H2_ := (Option.bind_some _ _).symm.trans H; rw [hy236]; with_reducible exact H2_) | (have H2_ := (Option.bind_some _ _).symm.trans H; with_reducible exact H2_) | with_reducible exact H | (rw [hy236]; exact H) | exact H
         have Ny236 := Aside0.mk hy236
         clear hy236
         replace H := Option.bind_eq_some_iff.mp H
         obtain ⟨t239, A220, H⟩ := H
         replace H : (some (t239, 0)) = some (r1, r2) := H
         have A22 := Aside0.mk A220
         clear A220
         simp only [Option.some.injEq, Prod.mk.injEq] at H
         obtain ⟨rfl, rfl⟩ := H
         have hcz23 := blk5 (w := wr) BK233.out
         go_wp2_with (first | ((with_reducible refine gate_dst (N := 66) rfl ?_); (try (refine gate_guard (by rfl) ?_; dsimp only)); refine Kd.R_lit (Kd.int .u32) _ 50 ?hg (N := 66) ?hd (xs := ([(Go.bits .and .u64 x6_2 4294967295) % 4294967296, (x6_2 / 4294967296) % 4294967296, (Go.bits .and .u64 x7_2 4294967295) % 4294967296, (x7_2 / 4294967296) % 4294967296] : List Int)) (inner := [.int .u32 ((Go.bits .and .u64 x6_2 4294967295) % 4294967296), .int .u32 ((x6_2 / 4294967296) % 4294967296), .int .u32 ((Go.bits .and .u64 x7_2 4294967295) % 4294967296), .int .u32 ((x7_2 / 4294967296) % 4294967296)]) (ok := fun _ => True) (okp := fun _ => True) ?hr ?hp (fun _ hk => hk) trivial (Below.refl _ _) (Nat.le_refl _) (by simp) ?_; (case hd => rfl); (case hg => rfl); (case hr => first | (go_simp; done) | (go_simp; rfl)); (case hp => exact (Reps.one (show Kd.M (Kd.int .u32) _ _ _ ((Go.bits .and .u64 x6_2 4294967295) % 4294967296) [.int .u32 ((Go.bits .and .u64 x6_2 4294967295) % 4294967296)] from rfl) (Reps.one (show Kd.M (Kd.int .u32) _ _ _ ((x6_2 / 4294967296) % 4294967296) [.int .u32 ((x6_2 / 4294967296) % 4294967296)] from rfl) (Reps.one (show Kd.M (Kd.int .u32) _ _ _ ((Go.bits .and .u64 x7_2 4294967295) % 4294967296) [.int .u32 ((Go.bits .and .u64 x7_2 4294967295) % 4294967296)] from rfl) (Reps.one (show Kd.M (Kd.int .u32) _ _ _ ((x7_2 / 4294967296) % 4294967296) [.int .u32 ((x7_2 / 4294967296) % 4294967296)] from rfl) (Reps.none _ _)))))); intro v237 w24 ho25 hb hg_ hnew_; clear hg_ hnew_; (first | rw [← Ny236.out] at ho25 | (simp only [Int.reduceToNat] at ho25; rw [← Ny236.out] at ho25)); have n0_ := Aside0.mk (Kd.R_lower ho25 (below_size (kB1 HB GE233))); have n1_ := Aside0.mk (blk_below (g := gb233) (o := .cells #[.string a0_0, .slice A0_1 l0_1.length c0_1, .int .i64 a0_2, .slice (some ad234) l0_3.length c0_3, .slice A0_4 l0_4.length c0_4] 26 (0, 0)) (kb BK233) hb); have n2_ := Aside0.mk (below_step (kB1 HB GE233) hb); clear BK233; clear HB; have HO238 := n0_; have BK233 := n1_; have HB := n2_; clear n0_ n1_ n2_; clear hb ho25; obtain ⟨Ao26, co26, eo26⟩ := Kd.R_slice HO238.out; subst eo26) | ((with_reducible refine gate_callee (f := 20) rfl ?_); refine goesL_ (some 67) rfl rfl Tryd.func20 (by kernel_rfl) rfl #[.slice Ao26 y236.length co26] rfl (by (try simp only [List.map_toArray, List.map_cons, List.map_nil]); first | done | rfl | (simp only [List.length_drop, List.length_take]; rfl)) ?_; (with_reducible refine (thicketref01_Norm.calls k2 _ _ y236 t239 _ ?side1 ?side2 A22.out).mono ?_); (case side1 => repeat (first | exact (Kd.R_reads' HO238.out).2.2 | (with_reducible refine Kd.C_alloc ?_ _) | (with_reducible refine Kd.C_drewN ?_ _) | (with_reducible refine Kd.C_drew ?_))); (case side2 => exact (Kd.R_reads' HO238.out).2.1); rintro e w27 ⟨v240, rfl, ho0, hb⟩; refine ⟨_, rfl, ?_⟩; have n0_ := Aside0.mk (Kd.R_elder' (kR HO238) (Kd.R_base ho0) hb); have n1_ := Aside0.mk (Kd.R_lower (Kd.R_new' ho0 (Kd.R_lt (kR HO238))) (below_size (kB1 HB GE233))); have n2_ := Aside0.mk (blk_below (g := gb233) (o := .cells #[.string a0_0, .slice A0_1 l0_1.length c0_1, .int .i64 a0_2, .slice (some ad234) l0_3.length c0_3, .slice A0_4 l0_4.length c0_4] 26 (0, 0)) (kb BK233) hb); have n3_ := Aside0.mk (below_step (kB1 HB GE233) hb); clear HO238; clear BK233; clear HB; have HO238 := n0_; have HO241 := n1_; have BK233 := n2_; have HB := n3_; clear n0_ n1_ n2_ n3_; (try clear hb); (try clear hb2); (try clear hk); (try clear hi); (try clear ho0)))
         go_ret2
         exact ⟨_, by first | rfl | (simp [errW_none, errW_some] <;> rfl) | (simp [*, errW_none, errW_some] <;> rfl), by (with_reducible repeat (first | apply Kd.R_alloc | apply Kd.R_drewN | apply Kd.R_drew)); exact Kd.R_mono HO241.out (fun _ hk => trivial), kB1 HB GE233⟩
     ·rw [if_neg c9] at H
      exact absurd H (by simp)
    ·rw [if_neg c8] at H
     exact absurd H (by simp)
/-! ### thicketref01_Same: function 12 -/
def thicketref01_Same.l0 : Nat → List Int → List Int → Int → Int → Option (Bool)
 | 0, _, _, _, _ => none
 | k + 1, x0, x1, x12, x13 => if x13 < x12 then (if 0 ≤ x13 then (if x13 < (x0.length : Int) then (if x13 < (x1.length : Int) then (if (rd x0 x13) = (rd x1 x13) then (thicketref01_Same.l0 k x0 x1 x12 (wrap64 (x13 + 1))) else (some false)) else (none)) else (none)) else (none)) else (some true)
def thicketref01_Same.f (k : Nat) (l0 : List Int) (l1 : List Int) : Option (Bool) := if (l0.length : Int) = (l1.length : Int) then (thicketref01_Same.l0 k l0 l1 (l0.length : Int) 0) else (some false)
theorem thicketref01_Same.mono_l : ∀ k, (∀ y0 y1 y2 y3, LeO (thicketref01_Same.l0 k y0 y1 y2 y3) (thicketref01_Same.l0 (k + 1) y0 y1 y2 y3))
 | 0 => fun _ _ _ _ r h => by simp [thicketref01_Same.l0] at h
 | k + 1 => by
  have ih0 := thicketref01_Same.mono_l k
  ·intro y0 y1 y2 y3
   unfold thicketref01_Same.l0
   repeat' first
   | (with_reducible exact ih0 _ _ _ _)
   | (with_reducible exact LeO.refl _)
   | (with_reducible exact LeO.none _)
   | (with_reducible refine LeO.ite ?_ ?_)
   | (with_reducible refine LeO.bind ?_ (fun _ => ?_))
   | exact ih0 _ _ _ _
   | exact LeO.none _
   | refine LeO.ite ?_ ?_
   | refine LeO.bind ?_ (fun _ => ?_)
theorem thicketref01_Same.mono : ∀ a0 a1 k, LeO (thicketref01_Same.f k a0 a1) (thicketref01_Same.f (k + 1) a0 a1) := by
 intro a0 a1 k
 have ih0 := thicketref01_Same.mono_l k
 unfold thicketref01_Same.f
 repeat' first
   | (with_reducible exact ih0 _ _ _ _)
   | (with_reducible exact LeO.refl _)
   | (with_reducible exact LeO.none _)
   | (with_reducible refine LeO.ite ?_ ?_)
   | (with_reducible refine LeO.bind ?_ (fun _ => ?_))
   | exact ih0 _ _ _ _
   | exact LeO.none _
   | refine LeO.ite ?_ ?_
   | refine LeO.bind ?_ (fun _ => ?_)
set_option maxHeartbeats 8000000 in
set_option maxRecDepth 100000 in
theorem thicketref01_Same.calls (k : Nat) (A0 : Option Addr) (c0 : Nat) (l0 : List Int) (A1 : Option Addr) (c1 : Nat) (l1 : List Int) (r : Bool) (w : World) (hr0 : Kd.C (Kd.int .u32) w A0 l0.length l0) (hc0 : l0.length ≤ c0) (hr1 : Kd.C (Kd.int .u32) w A1 l1.length l1) (hc1 : l1.length ≤ c1) (h : thicketref01_Same.f k l0 l1 = some r) :
  Calls Tryd.prog 12 #[.slice A0 l0.length c0, .slice A1 l1.length c1] w fun e w' => e = .returned (.bool r) ∧ Drawn0 w w' := by
 have HR0 := Aside0.mk hr0
 have HC0 := Aside0.mk hc0
 clear hr0 hc0
 have HR1 := Aside0.mk hr1
 have HC1 := Aside0.mk hc1
 clear hr1 hc1
 have H : (if (l0.length : Int) = (l1.length : Int) then (thicketref01_Same.l0 k l0 l1 (l0.length : Int) 0) else (some false)) = some r := h
 clear h
 by_cases c3 : (l0.length : Int) = (l1.length : Int)
 ·rw [if_pos c3] at H
  have c3b0 : ((l0.length : Int) == (l1.length : Int)) = true := beq_iff_eq.mpr c3
  have c3b1 : ((l0.length : Int) != (l1.length : Int)) = false := bne_eq_false_iff_eq.mpr c3
  have c3b2 : (l0.length == l1.length) = true := by first | simpa using c3 | (simp at c3 ⊢; omega)
  clear c3
  have H' := Aside0.mk H
  clear H
  go_enter Tryd.func12, Tryd.ntmps12
  go_wp2
  repeat (go_quiet (fail); try go_wp2)
  go_loopg [13] k (fun kq v13 w' => ∃ (x13_1 : Int), v13 = .int .i64 x13_1 ∧ Aside0 (thicketref01_Same.l0 kq l0 l1 (l0.length : Int) x13_1 = some r) ∧ Aside0 (kq ≤ k) ∧ Drawn0 w w')
  case atStart => exact ⟨(0), kr, H', ⟨Nat.le_refl _⟩, by repeat (first | exact Drawn0.refl _ | apply Drawn0.step)⟩
  case round =>
   clear H'
   try clear c1
   try clear p2
   try clear c3
   try clear c3b0
   try clear c3b1
   try clear c3b2
   obtain ⟨x13_1, rfl, HA, HK1, ⟨m1, rfl⟩⟩ := hrel
   cases gk with
   | zero => exact absurd HA.out (by simp [thicketref01_Same.l0])
   | succ k1 =>
    have H := HA.out
    clear HA
    simp only [thicketref01_Same.l0] at H
    by_cases c4 : x13_1 < (l0.length : Int)
    ·rw [if_pos c4] at H
     have c4b0 : decide (x13_1 < (l0.length : Int)) = true := decide_eq_true c4
     clear c4
     by_cases c5 : 0 ≤ x13_1
     ·rw [if_pos c5] at H
      have c5b0 : decide (0 ≤ x13_1) = true := decide_eq_true c5
      clear c5
      by_cases c6 : x13_1 < (l0.length : Int)
      ·rw [if_pos c6] at H
       have c6b0 : decide (x13_1 < (l0.length : Int)) = true := decide_eq_true c6
       clear c6
       by_cases c7 : x13_1 < (l1.length : Int)
       ·rw [if_pos c7] at H
        have c7b0 : decide (x13_1 < (l1.length : Int)) = true := decide_eq_true c7
        clear c7
        by_cases c8 : (rd l0 x13_1) = (rd l1 x13_1)
        ·rw [if_pos c8] at H
         have c8b0 : ((rd l0 x13_1) == (rd l1 x13_1)) = true := beq_iff_eq.mpr c8
         have c8b1 : ((rd l0 x13_1) != (rd l1 x13_1)) = false := bne_eq_false_iff_eq.mpr c8
         clear c8
         have H' := Aside0.mk H
         clear H
         have p245 : 0 ≤ (x13_1 : Int) := of_decide_eq_true ka
         have q245 : x13_1 < (l0.length : Int) := of_decide_eq_true ka
         obtain ⟨ad245, e245, hx245_0⟩ := Kd.at_int HR0.out x13_1 p245 q245
         cases e245
         replace p245 := eq_true p245
         replace q245 := eq_true q245
         have p246 : 0 ≤ (x13_1 : Int) := of_decide_eq_true ka
         have q246 : x13_1 < (l1.length : Int) := of_decide_eq_true ka
         obtain ⟨ad246, e246, hx246_0⟩ := Kd.at_int HR1.out x13_1 p246 q246
         cases e246
         replace p246 := eq_true p246
         replace q246 := eq_true q246
         go_wp2
         repeat (go_quiet (fail); try go_wp2)
         go_roundg k1
         case measure => have := HK1.out; omega
         case rel => exact ⟨(wrap64 (x13_1 + 1)), kr, H', ⟨by have := HK1.out; omega⟩, by repeat (first | exact Drawn0.refl _ | apply Drawn0.step)⟩
        ·rw [if_neg c8] at H
         have c8b0 : ((rd l0 x13_1) == (rd l1 x13_1)) = false := beq_eq_false_iff_ne.mpr c8
         have c8b1 : ((rd l0 x13_1) != (rd l1 x13_1)) = true := bne_iff_ne.mpr c8
         obtain rfl := Option.some.inj H
         have p245 : 0 ≤ (x13_1 : Int) := of_decide_eq_true ka
         have q245 : x13_1 < (l0.length : Int) := of_decide_eq_true ka
         obtain ⟨ad245, e245, hx245_0⟩ := Kd.at_int HR0.out x13_1 p245 q245
         cases e245
         replace p245 := eq_true p245
         replace q245 := eq_true q245
         have p246 : 0 ≤ (x13_1 : Int) := of_decide_eq_true ka
         have q246 : x13_1 < (l1.length : Int) := of_decide_eq_true ka
         obtain ⟨ad246, e246, hx246_0⟩ := Kd.at_int HR1.out x13_1 p246 q246
         cases e246
         replace p246 := eq_true p246
         replace q246 := eq_true q246
         go_wp2
         repeat (go_quiet (fail); try go_wp2)
         go_ret
         exact ⟨by first | rfl | (simp; done) | (simp [*]; done), by repeat (first | exact Drawn0.refl _ | apply Drawn0.step)⟩
       ·rw [if_neg c7] at H
        exact absurd H (by simp)
      ·rw [if_neg c6] at H
       exact absurd H (by simp)
     ·rw [if_neg c5] at H
      exact absurd H (by simp)
    ·rw [if_neg c4] at H
     have c4b0 : decide (x13_1 < (l0.length : Int)) = false := decide_eq_false c4
     clear c4
     obtain rfl := Option.some.inj H
     go_wp2
     repeat (go_quiet (fail); try go_wp2)
     go_ret
     exact ⟨by first | rfl | (simp; done) | (simp [*]; done), by repeat (first | exact Drawn0.refl _ | apply Drawn0.step)⟩
 ·rw [if_neg c3] at H
  have c3b0 : ((l0.length : Int) == (l1.length : Int)) = false := beq_eq_false_iff_ne.mpr c3
  have c3b1 : ((l0.length : Int) != (l1.length : Int)) = true := bne_iff_ne.mpr c3
  have c3b2 : (l0.length == l1.length) = false := by first | simpa using c3 | (simp at c3 ⊢; omega)
  obtain rfl := Option.some.inj H
  go_enter Tryd.func12, Tryd.ntmps12
  go_wp2
  repeat (go_quiet (fail); try go_wp2)
  go_ret
  exact ⟨by first | rfl | (simp; done) | (simp [*]; done), by repeat (first | exact Drawn0.refl _ | apply Drawn0.step)⟩
-- NOT PRINTED: function 15 (thicketlaw08_begins)
-- NOT PRINTED: function 4 (thicketlaw08_RulesRooms)
-- NOT PRINTED: function 5 (thicketlaw08_RulesOwn)
end Go.Proofs.YtglpjgbgomppjaaDoor.FAll
