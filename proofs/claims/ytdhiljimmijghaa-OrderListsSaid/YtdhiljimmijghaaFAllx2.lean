-- written by fprint.sh, a program of ours over the kit's print: not by hand
import Derived.Test.YtdhiljimmijghaaFAllx0
import Derived.Test.YtdhiljimmijghaaFAllx1
namespace Go.Proofs.Ytdhiljimmijghaa.FAll
set_option linter.unusedSectionVars false
variable [OrdC]
open Go.RowKit Go.Proofs.YtdhiljimmijghaaW.PrintWords Go.Proofs.YtdhiljimmijghaaW.PrintLast Go.Proofs.YtdhiljimmijghaaW.PrintMore
attribute [local go_sem] feq_walk fne_walk flt_walk fle_walk fgt_walk fge_walk fint_walk fstore_walk run_f64bits run_f64from max2_int min2_int max_two min_two max_three min_three max_four min_four   -- for this text's walks alone
set_option linter.unusedVariables false
set_option linter.unusedSimpArgs false
/-! ### thicketref06_Distinct: function 12 -/
mutual
def thicketref06_Distinct.l0 : Nat → List Int → List Int → Int → Option (List Int)
 | 0, _, _, _ => none
 | k + 1, x3, x4, x5 => if x5 < (x3.length : Int) then (if 0 ≤ x5 then ((thicketref06_NaN.f (rd x3 x5)).bind fun t130 => (if t130 = true then (thicketref06_Distinct.j1 k x3 x4 x5 true) else (if (x4.length : Int) > 0 then (if 0 ≤ (wrap64 ((x4.length : Int) - 1)) then (if (wrap64 ((x4.length : Int) - 1)) < (x4.length : Int) then ((thicketref06_Key.f (rd x4 (wrap64 ((x4.length : Int) - 1)))).bind fun t132 => ((thicketref06_Key.f (rd x3 x5)).bind fun t134 => (thicketref06_Distinct.j1 k x3 x4 x5 (t132 == t134)))) else (none)) else (none)) else (thicketref06_Distinct.j1 k x3 x4 x5 false)))) else (none)) else (some x4)
def thicketref06_Distinct.j1 : Nat → List Int → List Int → Int → Bool → Option (List Int)
 | 0, _, _, _, _ => none
 | k + 1, x3, x4, x5, x40 => if x40 = true then (thicketref06_Distinct.l0 k x3 x4 (wrap64 (x5 + 1))) else (if 0 ≤ x5 then (if x5 < (x3.length : Int) then ((thicketref06_Key.f (rd x3 x5)).bind fun t136 => ((thicketref06_At.f t136).bind fun bt137 => (if x4.length < 17592186044416 then (thicketref06_Distinct.l0 k x3 (x4 ++ [bt137.1]) (wrap64 (x5 + 1))) else (none)))) else (none)) else (none))
end
def thicketref06_Distinct.f (k : Nat) (l0 : List Int) : Option (List Int) := (thicketref06_Sorted.f k l0).bind fun t126 => (thicketref06_Distinct.l0 k t126 ([] : List Int) 0)
theorem thicketref06_Distinct.mono_l : ∀ k, (∀ y0 y1 y2, LeO (thicketref06_Distinct.l0 k y0 y1 y2) (thicketref06_Distinct.l0 (k + 1) y0 y1 y2)) ∧ (∀ y0 y1 y2 y3, LeO (thicketref06_Distinct.j1 k y0 y1 y2 y3) (thicketref06_Distinct.j1 (k + 1) y0 y1 y2 y3))
 | 0 => ⟨fun _ _ _ r h => by simp [thicketref06_Distinct.l0] at h, fun _ _ _ _ r h => by simp [thicketref06_Distinct.j1] at h⟩
 | k + 1 => by
  obtain ⟨ih0, ih1⟩ := thicketref06_Distinct.mono_l k
  refine ⟨?_, ?_⟩
  ·intro y0 y1 y2
   unfold thicketref06_Distinct.l0
   repeat' first
   | (with_reducible exact ih0 _ _ _)
   | (with_reducible exact ih1 _ _ _ _)
   | (with_reducible exact thicketref06_Sorted.mono _ _)
   | (with_reducible exact LeO.refl _)
   | (with_reducible exact LeO.none _)
   | (with_reducible refine LeO.ite ?_ ?_)
   | (with_reducible refine LeO.bind ?_ (fun _ => ?_))
   | exact ih0 _ _ _
   | exact ih1 _ _ _ _
   | exact thicketref06_Sorted.mono _ _
   | exact LeO.none _
   | refine LeO.ite ?_ ?_
   | refine LeO.bind ?_ (fun _ => ?_)
  ·intro y0 y1 y2 y3
   unfold thicketref06_Distinct.j1
   repeat' first
   | (with_reducible exact ih0 _ _ _)
   | (with_reducible exact ih1 _ _ _ _)
   | (with_reducible exact thicketref06_Sorted.mono _ _)
   | (with_reducible exact LeO.refl _)
   | (with_reducible exact LeO.none _)
   | (with_reducible refine LeO.ite ?_ ?_)
   | (with_reducible refine LeO.bind ?_ (fun _ => ?_))
   | exact ih0 _ _ _
   | exact ih1 _ _ _ _
   | exact thicketref06_Sorted.mono _ _
   | exact LeO.none _
   | refine LeO.ite ?_ ?_
   | refine LeO.bind ?_ (fun _ => ?_)
theorem thicketref06_Distinct.mono : ∀ a0 k, LeO (thicketref06_Distinct.f k a0) (thicketref06_Distinct.f (k + 1) a0) := by
 intro a0 k
 obtain ⟨ih0, ih1⟩ := thicketref06_Distinct.mono_l k
 unfold thicketref06_Distinct.f
 repeat' first
   | (with_reducible exact ih0 _ _ _)
   | (with_reducible exact ih1 _ _ _ _)
   | (with_reducible exact thicketref06_Sorted.mono _ _)
   | (with_reducible exact LeO.refl _)
   | (with_reducible exact LeO.none _)
   | (with_reducible refine LeO.ite ?_ ?_)
   | (with_reducible refine LeO.bind ?_ (fun _ => ?_))
   | exact ih0 _ _ _
   | exact ih1 _ _ _ _
   | exact thicketref06_Sorted.mono _ _
   | exact LeO.none _
   | refine LeO.ite ?_ ?_
   | refine LeO.bind ?_ (fun _ => ?_)
set_option maxHeartbeats 8000000 in
set_option maxRecDepth 100000 in
theorem thicketref06_Distinct.calls (k : Nat) (A0 : Option Addr) (c0 : Nat) (l0 : List Int) (r : List Int) (w : World) (hr0 : Kd.C (Kd.int .u64) w A0 l0.length l0) (hc0 : l0.length ≤ c0) (h : thicketref06_Distinct.f k l0 = some r) :
  Calls Try.prog 12 #[.slice A0 l0.length c0] w fun e w' => ∃ v0_ : Value, e = .returned (v0_) ∧ Kd.R (Kd.int .u64) 23 w' w.heap.size (fun _ => True) v0_ r ∧ Below w.heap.size w w' := by
 have HR0 := Aside0.mk hr0
 have HC0 := Aside0.mk hc0
 clear hr0 hc0
 have HB := Aside0.mk (Below.refl w.heap.size w)
 have H : ((thicketref06_Sorted.f k l0).bind fun t126 => (thicketref06_Distinct.l0 k t126 ([] : List Int) 0)) = some r := h
 clear h
 replace H := Option.bind_eq_some_iff.mp H
 obtain ⟨t126, A20, H⟩ := H
 replace H : (thicketref06_Distinct.l0 k t126 ([] : List Int) 0) = some r := H
 have A2 := Aside0.mk A20
 clear A20
 have H' := Aside0.mk H
 clear H
 go_enter Try.func12, Try.ntmps12
 go_wp2_with (first | (go_at_call 10; (with_reducible refine (thicketref06_Sorted.calls k _ _ l0 t126 _ ?side1 ?side2 A2.out).mono ?_); (case side1 => repeat (first | exact HR0.out | (with_reducible refine Kd.C_alloc ?_ _) | (with_reducible refine Kd.C_drewN ?_ _) | (with_reducible refine Kd.C_drew ?_))); (case side2 => exact HC0.out); rintro e w3 ⟨v127, rfl, ho0, hb⟩; have n0_ := Aside0.mk (Kd.R_lower ho0 (below_size (kB0 HB))); have n1_ := Aside0.mk (below_step (kB0 HB) hb); clear HB; have HO128 := n0_; have HB := n1_; clear n0_ n1_; (try clear hb); (try clear hb2); (try clear hk); (try clear hi); (try clear ho0)))
 repeat (go_quiet (first | (go_at_call 10; (with_reducible refine (thicketref06_Sorted.calls k _ _ l0 t126 _ ?side1 ?side2 A2.out).mono ?_); (case side1 => repeat (first | exact HR0.out | (with_reducible refine Kd.C_alloc ?_ _) | (with_reducible refine Kd.C_drewN ?_ _) | (with_reducible refine Kd.C_drew ?_))); (case side2 => exact HC0.out); rintro e w3 ⟨v127, rfl, ho0, hb⟩; have n0_ := Aside0.mk (Kd.R_lower ho0 (below_size (kB0 HB))); have n1_ := Aside0.mk (below_step (kB0 HB) hb); clear HB; have HO128 := n0_; have HB := n1_; clear n0_ n1_; (try clear hb); (try clear hb2); (try clear hk); (try clear hi); (try clear ho0))); try go_wp2_with (first | (go_at_call 10; (with_reducible refine (thicketref06_Sorted.calls k _ _ l0 t126 _ ?side1 ?side2 A2.out).mono ?_); (case side1 => repeat (first | exact HR0.out | (with_reducible refine Kd.C_alloc ?_ _) | (with_reducible refine Kd.C_drewN ?_ _) | (with_reducible refine Kd.C_drew ?_))); (case side2 => exact HC0.out); rintro e w3 ⟨v127, rfl, ho0, hb⟩; have n0_ := Aside0.mk (Kd.R_lower ho0 (below_size (kB0 HB))); have n1_ := Aside0.mk (below_step (kB0 HB) hb); clear HB; have HO128 := n0_; have HB := n1_; clear n0_ n1_; (try clear hb); (try clear hb2); (try clear hk); (try clear hi); (try clear ho0))))
 go_loopg [4, 5] k (fun kq v4 v5 w' => ∃ (x4_1 : List Int) (x5_1 : Int), v5 = .int .i64 x5_1 ∧ Aside0 (thicketref06_Distinct.l0 kq t126 x4_1 x5_1 = some r) ∧ Aside0 (kq ≤ k) ∧ Aside0 (Kd.R (Kd.int .u64) 23 w' w.heap.size (fun k_ => some k_ ≠ (v4 : Value).ownBlock) v127 t126) ∧ Aside0 (Kd.R (Kd.int .u64) 23 w' w.heap.size (fun k_ => some k_ ≠ (v127 : Value).ownBlock) v4 x4_1) ∧ Aside0 (Below w.heap.size w w'))
 case atStart => exact ⟨(([] : List Int)), (0), kr, H', ⟨Nat.le_refl _⟩, ⟨by (with_reducible repeat (first | apply Kd.R_alloc | apply Kd.R_drewN | apply Kd.R_drew)); exact Kd.R_mono HO128.out (fun _ hk => (by simp [Value.ownBlock]))⟩, ⟨by first | exact Kd.R_nil _ _ _ _ _ | exact Kd.N_nil _ _ _ _ _ | exact Kd.V_nil _ _ _ _ _ | exact Kd.Q_nil _ _ _ _ _ | exact Kd.S_nil _ _ _ _ _⟩, ⟨kB0 HB⟩⟩
 case round =>
  clear H'
  try clear c1
  try clear p2
  obtain ⟨x4_1, x5_1, rfl, HA, HK1, HO_3, HO_4, HB⟩ := hrel
  cases gk with
  | zero => exact absurd HA.out (by simp [thicketref06_Distinct.l0])
  | succ k1 =>
   have H := HA.out
   clear HA
   simp only [thicketref06_Distinct.l0] at H
   by_cases c4 : x5_1 < (t126.length : Int)
   ·rw [if_pos c4] at H
    have c4b0 : decide (x5_1 < (t126.length : Int)) = true := decide_eq_true c4
    clear c4
    have HC5 := Aside0.mk H
    clear H
    obtain ⟨Ao6, co6, eo6⟩ := Kd.R_slice HO_3.out
    subst eo6
    go_upto_region 6 with (fail)
    repeat (go_quiet (fail); go_upto_region 6 with (fail))
    go_cut [40] (fun v40 wc => ∃ (kq : Nat) (x40_4 : Bool), v40 = .bool x40_4 ∧ Aside0 (thicketref06_Distinct.j1 kq t126 x4_1 x5_1 x40_4 = some r) ∧ Aside0 (kq ≤ k1) ∧ Aside0 (Kd.R (Kd.int .u64) 23 wc w.heap.size (fun k_ => some k_ ≠ (u4 : Value).ownBlock) (.slice Ao6 t126.length co6) t126) ∧ Aside0 (Kd.R (Kd.int .u64) 23 wc w.heap.size (fun k_ => some k_ ≠ ((.slice Ao6 t126.length co6) : Value).ownBlock) u4 x4_1) ∧ Aside0 (Below w.heap.size w wc))
    case first =>
     have H := HC5.out
     clear HC5
     by_cases c7 : 0 ≤ x5_1
     ·rw [if_pos c7] at H
      have c7b0 : decide (0 ≤ x5_1) = true := decide_eq_true c7
      clear c7
      (first | rw [c7b0] | (simp only [i64_w, i32_w]; rw [c7b0]) | skip)
      replace H := Option.bind_eq_some_iff.mp H
      obtain ⟨t130, A80, H⟩ := H
      replace H : (if t130 = true then (thicketref06_Distinct.j1 k1 t126 x4_1 x5_1 true) else (if (x4_1.length : Int) > 0 then (if 0 ≤ (wrap64 ((x4_1.length : Int) - 1)) then (if (wrap64 ((x4_1.length : Int) - 1)) < (x4_1.length : Int) then ((thicketref06_Key.f (rd x4_1 (wrap64 ((x4_1.length : Int) - 1)))).bind fun t132 => ((thicketref06_Key.f (rd t126 x5_1)).bind fun t134 => (thicketref06_Distinct.j1 k1 t126 x4_1 x5_1 (t132 == t134)))) else (none)) else (none)) else (thicketref06_Distinct.j1 k1 t126 x4_1 x5_1 false))) = some r := H
      have A8 := Aside0.mk A80
      clear A80
      by_cases c9 : t130 = true
      ·subst c9
       have H1 : (thicketref06_Distinct.j1 k1 t126 x4_1 x5_1 true) = some r := by rw [if_pos rfl] at H; exact H
       clear H
       have H := H1
       clear H1
       have H' := Aside0.mk H
       clear H
       have p129 : 0 ≤ (x5_1 : Int) := of_decide_eq_true ka
       have q129 : x5_1 < (t126.length : Int) := of_decide_eq_true ka
       obtain ⟨ad129, e129, hx129_0⟩ := Kd.at_int (Kd.R_reads' HO_3.out).2.2 x5_1 p129 q129
       cases e129
       replace p129 := eq_true p129
       replace q129 := eq_true q129
       go_wp2_with (first | (go_at_call 27; (with_reducible refine (thicketref06_NaN.calls (rd t126 x5_1) true _ A8.out).mono ?_); rintro e w' ⟨rfl, ⟨nd, rfl⟩⟩; (try first | exact ⟨rfl, _, World.drewN_drewN _ _ _⟩ | exact ⟨rfl, _, Eq.trans (World.drewN_drewN _ _ _) (congrArg (World.drewN _) (Nat.add_assoc _ _ _))⟩)))
       repeat (go_quiet (first | (go_at_call 27; (with_reducible refine (thicketref06_NaN.calls (rd t126 x5_1) true _ A8.out).mono ?_); rintro e w' ⟨rfl, ⟨nd, rfl⟩⟩; (try first | exact ⟨rfl, _, World.drewN_drewN _ _ _⟩ | exact ⟨rfl, _, Eq.trans (World.drewN_drewN _ _ _) (congrArg (World.drewN _) (Nat.add_assoc _ _ _))⟩))); try go_wp2_with (first | (go_at_call 27; (with_reducible refine (thicketref06_NaN.calls (rd t126 x5_1) true _ A8.out).mono ?_); rintro e w' ⟨rfl, ⟨nd, rfl⟩⟩; (try first | exact ⟨rfl, _, World.drewN_drewN _ _ _⟩ | exact ⟨rfl, _, Eq.trans (World.drewN_drewN _ _ _) (congrArg (World.drewN _) (Nat.add_assoc _ _ _))⟩))))
       go_meet
       case rel => exact ⟨_, (true), kr, H', ⟨by have := HK1.out; first | omega | exact Nat.le_refl _⟩, ⟨kR HO_3⟩, ⟨kR HO_4⟩, ⟨kB0 HB⟩⟩
      ·replace c9 := Bool.eq_false_iff.mpr c9
       subst c9
       have H1 : (if (x4_1.length : Int) > 0 then (if 0 ≤ (wrap64 ((x4_1.length : Int) - 1)) then (if (wrap64 ((x4_1.length : Int) - 1)) < (x4_1.length : Int) then ((thicketref06_Key.f (rd x4_1 (wrap64 ((x4_1.length : Int) - 1)))).bind fun t132 => ((thicketref06_Key.f (rd t126 x5_1)).bind fun t134 => (thicketref06_Distinct.j1 k1 t126 x4_1 x5_1 (t132 == t134)))) else (none)) else (none)) else (thicketref06_Distinct.j1 k1 t126 x4_1 x5_1 false)) = some r := by rw [if_neg (show ¬ (false = true) by decide)] at H; exact H
       clear H
       have H := H1
       clear H1
       by_cases c10 : (x4_1.length : Int) > 0
       ·rw [if_pos c10] at H
        have c10b0 : decide (0 < (x4_1.length : Int)) = true := decide_eq_true c10
        have c10b1 : decide (0 < x4_1.length) = true := decide_eq_true (by omega)
        clear c10
        obtain ⟨ji11, hji11⟩ : ∃ j_ : Int, (wrap64 ((x4_1.length : Int) - 1)) = j_ := ⟨_, rfl⟩
        replace H : (if 0 ≤ (ji11) then (if (ji11) < (x4_1.length : Int) then ((thicketref06_Key.f (rd x4_1 (ji11))).bind fun t132 => ((thicketref06_Key.f (rd t126 x5_1)).bind fun t134 => (thicketref06_Distinct.j1 k1 t126 x4_1 x5_1 (t132 == t134)))) else (none)) else (none)) = some r := by first | (rw [hji11] at H; exact H) | (simp only [hji11] at H ⊢; exact H)
        (try rw [hji11] at A8)
        have hji11w : (IntKind.i64.wrap ((x4_1.length : Int) - 1)) = ji11 := (i64_w _).trans hji11
        by_cases c12 : 0 ≤ (ji11)
        ·rw [if_pos c12] at H
         have c12b0 : decide (0 ≤ (ji11)) = true := decide_eq_true c12
         clear c12
         by_cases c13 : (ji11) < (x4_1.length : Int)
         ·rw [if_pos c13] at H
          have c13b0 : decide ((ji11) < (x4_1.length : Int)) = true := decide_eq_true c13
          clear c13
          replace H := Option.bind_eq_some_iff.mp H
          obtain ⟨t132, A140, H⟩ := H
          replace H : ((thicketref06_Key.f (rd t126 x5_1)).bind fun t134 => (thicketref06_Distinct.j1 k1 t126 x4_1 x5_1 (t132 == t134))) = some r := H
          have A14 := Aside0.mk A140
          clear A140
          replace H := Option.bind_eq_some_iff.mp H
          obtain ⟨t134, A150, H⟩ := H
          replace H : (thicketref06_Distinct.j1 k1 t126 x4_1 x5_1 (t132 == t134)) = some r := H
          have A15 := Aside0.mk A150
          clear A150
          have H' := Aside0.mk H
          clear H
          have p129 : 0 ≤ (x5_1 : Int) := of_decide_eq_true ka
          have q129 : x5_1 < (t126.length : Int) := of_decide_eq_true ka
          obtain ⟨ad129, e129, hx129_0⟩ := Kd.at_int (Kd.R_reads' HO_3.out).2.2 x5_1 p129 q129
          cases e129
          replace p129 := eq_true p129
          replace q129 := eq_true q129
          go_wp2_with (first | (go_at_call 27; (with_reducible refine (thicketref06_NaN.calls (rd t126 x5_1) false _ A8.out).mono ?_); rintro e w' ⟨rfl, ⟨nd, rfl⟩⟩; (try first | exact ⟨rfl, _, World.drewN_drewN _ _ _⟩ | exact ⟨rfl, _, Eq.trans (World.drewN_drewN _ _ _) (congrArg (World.drewN _) (Nat.add_assoc _ _ _))⟩); obtain ⟨Ao16, co16, eo16⟩ := Kd.R_slice HO_4.out; subst eo16; have p131 : 0 ≤ ((ji11) : Int) := of_decide_eq_true ka; have q131 : (ji11) < (x4_1.length : Int) := of_decide_eq_true ka; obtain ⟨ad131, e131, hx131_0⟩ := Kd.at_int (Kd.R_reads' HO_4.out).2.2 (ji11) p131 q131; cases e131; replace p131 := eq_true p131; replace q131 := eq_true q131) | (go_at_call 23; (with_reducible refine (thicketref06_Key.calls (rd x4_1 (ji11)) t132 _ A14.out).mono ?_); rintro e w' ⟨rfl, ⟨nd, rfl⟩⟩; (try first | exact ⟨rfl, _, World.drewN_drewN _ _ _⟩ | exact ⟨rfl, _, Eq.trans (World.drewN_drewN _ _ _) (congrArg (World.drewN _) (Nat.add_assoc _ _ _))⟩); have p133 : 0 ≤ (x5_1 : Int) := of_decide_eq_true ka; have q133 : x5_1 < (t126.length : Int) := of_decide_eq_true ka; obtain ⟨ad133, e133, hx133_0⟩ := Kd.at_int (Kd.R_reads' HO_3.out).2.2 x5_1 p133 q133; obtain rfl : ad129 = ad133 := (by injection e133); replace p133 := eq_true p133; replace q133 := eq_true q133) | (go_at_call 23; (with_reducible refine (thicketref06_Key.calls (rd t126 x5_1) t134 _ A15.out).mono ?_); rintro e w' ⟨rfl, ⟨nd, rfl⟩⟩; (try first | exact ⟨rfl, _, World.drewN_drewN _ _ _⟩ | exact ⟨rfl, _, Eq.trans (World.drewN_drewN _ _ _) (congrArg (World.drewN _) (Nat.add_assoc _ _ _))⟩)))
          repeat (go_quiet (first | (go_at_call 27; (with_reducible refine (thicketref06_NaN.calls (rd t126 x5_1) false _ A8.out).mono ?_); rintro e w' ⟨rfl, ⟨nd, rfl⟩⟩; (try first | exact ⟨rfl, _, World.drewN_drewN _ _ _⟩ | exact ⟨rfl, _, Eq.trans (World.drewN_drewN _ _ _) (congrArg (World.drewN _) (Nat.add_assoc _ _ _))⟩); obtain ⟨Ao16, co16, eo16⟩ := Kd.R_slice HO_4.out; subst eo16; have p131 : 0 ≤ ((ji11) : Int) := of_decide_eq_true ka; have q131 : (ji11) < (x4_1.length : Int) := of_decide_eq_true ka; obtain ⟨ad131, e131, hx131_0⟩ := Kd.at_int (Kd.R_reads' HO_4.out).2.2 (ji11) p131 q131; cases e131; replace p131 := eq_true p131; replace q131 := eq_true q131) | (go_at_call 23; (with_reducible refine (thicketref06_Key.calls (rd x4_1 (ji11)) t132 _ A14.out).mono ?_); rintro e w' ⟨rfl, ⟨nd, rfl⟩⟩; (try first | exact ⟨rfl, _, World.drewN_drewN _ _ _⟩ | exact ⟨rfl, _, Eq.trans (World.drewN_drewN _ _ _) (congrArg (World.drewN _) (Nat.add_assoc _ _ _))⟩); have p133 : 0 ≤ (x5_1 : Int) := of_decide_eq_true ka; have q133 : x5_1 < (t126.length : Int) := of_decide_eq_true ka; obtain ⟨ad133, e133, hx133_0⟩ := Kd.at_int (Kd.R_reads' HO_3.out).2.2 x5_1 p133 q133; obtain rfl : ad129 = ad133 := (by injection e133); replace p133 := eq_true p133; replace q133 := eq_true q133) | (go_at_call 23; (with_reducible refine (thicketref06_Key.calls (rd t126 x5_1) t134 _ A15.out).mono ?_); rintro e w' ⟨rfl, ⟨nd, rfl⟩⟩; (try first | exact ⟨rfl, _, World.drewN_drewN _ _ _⟩ | exact ⟨rfl, _, Eq.trans (World.drewN_drewN _ _ _) (congrArg (World.drewN _) (Nat.add_assoc _ _ _))⟩))); try go_wp2_with (first | (go_at_call 27; (with_reducible refine (thicketref06_NaN.calls (rd t126 x5_1) false _ A8.out).mono ?_); rintro e w' ⟨rfl, ⟨nd, rfl⟩⟩; (try first | exact ⟨rfl, _, World.drewN_drewN _ _ _⟩ | exact ⟨rfl, _, Eq.trans (World.drewN_drewN _ _ _) (congrArg (World.drewN _) (Nat.add_assoc _ _ _))⟩); obtain ⟨Ao16, co16, eo16⟩ := Kd.R_slice HO_4.out; subst eo16; have p131 : 0 ≤ ((ji11) : Int) := of_decide_eq_true ka; have q131 : (ji11) < (x4_1.length : Int) := of_decide_eq_true ka; obtain ⟨ad131, e131, hx131_0⟩ := Kd.at_int (Kd.R_reads' HO_4.out).2.2 (ji11) p131 q131; cases e131; replace p131 := eq_true p131; replace q131 := eq_true q131) | (go_at_call 23; (with_reducible refine (thicketref06_Key.calls (rd x4_1 (ji11)) t132 _ A14.out).mono ?_); rintro e w' ⟨rfl, ⟨nd, rfl⟩⟩; (try first | exact ⟨rfl, _, World.drewN_drewN _ _ _⟩ | exact ⟨rfl, _, Eq.trans (World.drewN_drewN _ _ _) (congrArg (World.drewN _) (Nat.add_assoc _ _ _))⟩); have p133 : 0 ≤ (x5_1 : Int) := of_decide_eq_true ka; have q133 : x5_1 < (t126.length : Int) := of_decide_eq_true ka; obtain ⟨ad133, e133, hx133_0⟩ := Kd.at_int (Kd.R_reads' HO_3.out).2.2 x5_1 p133 q133; obtain rfl : ad129 = ad133 := (by injection e133); replace p133 := eq_true p133; replace q133 := eq_true q133) | (go_at_call 23; (with_reducible refine (thicketref06_Key.calls (rd t126 x5_1) t134 _ A15.out).mono ?_); rintro e w' ⟨rfl, ⟨nd, rfl⟩⟩; (try first | exact ⟨rfl, _, World.drewN_drewN _ _ _⟩ | exact ⟨rfl, _, Eq.trans (World.drewN_drewN _ _ _) (congrArg (World.drewN _) (Nat.add_assoc _ _ _))⟩))))
          go_meet
          case rel => exact ⟨_, ((t132 == t134)), kr, H', ⟨by have := HK1.out; first | omega | exact Nat.le_refl _⟩, ⟨kR HO_3⟩, ⟨kR HO_4⟩, ⟨kB0 HB⟩⟩
         ·rw [if_neg c13] at H
          exact absurd H (by simp)
        ·rw [if_neg c12] at H
         exact absurd H (by simp)
       ·rw [if_neg c10] at H
        have c10b0 : decide (0 < (x4_1.length : Int)) = false := decide_eq_false c10
        have c10b1 : decide (0 < x4_1.length) = false := decide_eq_false (by omega)
        obtain rfl : x4_1 = [] := List.length_eq_zero_iff.1 (by omega)
        clear c10
        have H' := Aside0.mk H
        clear H
        have p129 : 0 ≤ (x5_1 : Int) := of_decide_eq_true ka
        have q129 : x5_1 < (t126.length : Int) := of_decide_eq_true ka
        obtain ⟨ad129, e129, hx129_0⟩ := Kd.at_int (Kd.R_reads' HO_3.out).2.2 x5_1 p129 q129
        cases e129
        replace p129 := eq_true p129
        replace q129 := eq_true q129
        obtain ⟨Ao17, co17, eo17⟩ := Kd.R_slice HO_4.out
        subst eo17
        refine start_ (n := 25) (S := fun w' => w'.cell? (ad129.add x5_1.toNat) = some (.int .u64 (rd t126 x5_1))) (ds := []) #[false, false, false, false, false, false, false, false, false, false, false, false, false, false, false, false, false, false, false, false, false, false, false, false, false] (by kernel_rfl) rfl rfl (hx129_0) (fun hHeld => ?_)
        refine pure_ (i := 0) (N := some 16) (v := ?_) (a' := ?_) #[true, false, false, false, false, false, false, false, false, false, false, false, false, false, false, false, false, false, false, false, false, false, false, false, false] rfl rfl (by kernel_rfl) (fun _ _ _ h => h) (Or.inl ⟨by rfl, ?_⟩) ?_ ?_
        rotate_left
        · intro w'
          go_simp
          with_reducible rfl
        rotate_left
        · simp only [Act.put, List.setIfInBounds_toArray, List.set_cons_zero, List.set_cons_succ, i64_w, i32_w]
          rfl
        refine pure_ (i := 1) (N := some 17) (v := ?_) (a' := ?_) #[true, true, false, false, false, false, false, false, false, false, false, false, false, false, false, false, false, false, false, false, false, false, false, false, false] rfl rfl (by kernel_rfl) (fun _ _ _ h => h) (Or.inl ⟨by rfl, ?_⟩) ?_ ?_
        rotate_left
        · intro w'
          go_simp
          with_reducible rfl
        rotate_left
        · simp only [Act.put, List.setIfInBounds_toArray, List.set_cons_zero, List.set_cons_succ, i64_w, i32_w]
          rfl
        refine pure_ (i := 2) (N := some 18) (v := ?_) (a' := ?_) #[true, true, true, false, false, false, false, false, false, false, false, false, false, false, false, false, false, false, false, false, false, false, false, false, false] rfl rfl (by kernel_rfl) (fun _ _ _ h => h) (Or.inl ⟨by rfl, ?_⟩) ?_ ?_
        rotate_left
        · intro w'
          go_simp
          with_reducible rfl
        rotate_left
        · simp only [Act.put, List.setIfInBounds_toArray, List.set_cons_zero, List.set_cons_succ, i64_w, i32_w]
          rfl
        refine take_ (i := 3) (N := some 19) (v := ?_) (a' := ?_) #[true, true, true, true, false, false, false, false, false, false, false, false, false, false, false, false, false, false, false, false, false, false, false, false, false] rfl rfl (by kernel_rfl) (fun _ _ _ h => h) (Or.inl ⟨by rfl, ?_⟩) hHeld ?_ ?_
        rotate_left
        · intro w' s0
          go_simp
          with_reducible rfl
        rotate_left
        · simp only [Act.put, List.setIfInBounds_toArray, List.set_cons_zero, List.set_cons_succ, i64_w, i32_w]
          rfl
        refine one_ (i := 4) (N := some 20) #[true, true, true, true, true, false, false, false, false, false, false, false, false, false, false, false, false, false, false, false, false, false, false, false, false] rfl rfl (by kernel_rfl) (by decide) (fun K hK => ?_)
        refine goes_ Try.func27 (by kernel_rfl) rfl #[.int .u64 (rd t126 x5_1)] (by rfl) rfl rfl (by simp only [List.map_toArray, List.map_cons, List.map_nil]; rfl) ?_
        with_reducible refine (thicketref06_NaN.calls (rd t126 x5_1) false _ A8.out).mono ?_
        rintro e w4 ⟨rfl, mq, rfl⟩
        refine ⟨_, rfl, ?_⟩
        have hbq := pw_below_drewN (Below.refl wr.drew.heap.size wr.drew) mq
        refine hK.out _ _ (((hbq.cell (World.block_lt_of_cell? _ _ hHeld)).trans hHeld)) (fun hHeld => ?_)
        clear hK K
        refine norm_ (a' := ?_) ?_ ?_
        rotate_left
        · show Act.put _ (some 20) _ = _
          simp only [Act.put, List.setIfInBounds_toArray, List.set_cons_zero, List.set_cons_succ, i64_w, i32_w]
          rfl
        refine pure_ (i := 5) (N := some 21) (v := ?_) (a' := ?_) #[true, true, true, true, true, true, false, false, false, false, false, false, false, false, false, false, false, false, false, false, false, false, false, false, false] rfl rfl (by kernel_rfl) (fun _ _ _ h => h) (Or.inl ⟨by rfl, ?_⟩) ?_ ?_
        rotate_left
        · intro w'
          go_simp
          with_reducible rfl
        rotate_left
        · simp only [Act.put, List.setIfInBounds_toArray, List.set_cons_zero, List.set_cons_succ, i64_w, i32_w]
          rfl
        refine pure_ (i := 6) (N := some 22) (v := ?_) (a' := ?_) #[true, true, true, true, true, true, true, false, false, false, false, false, false, false, false, false, false, false, false, false, false, false, false, false, false] rfl rfl (by kernel_rfl) (fun _ _ _ h => h) (Or.inl ⟨by rfl, ?_⟩) ?_ ?_
        rotate_left
        · intro w'
          go_simp
          with_reducible rfl
        rotate_left
        · simp only [Act.put, List.setIfInBounds_toArray, List.set_cons_zero, List.set_cons_succ, i64_w, i32_w]
          rfl
        refine pure_ (i := 7) (N := some 23) (v := ?_) (a' := ?_) #[true, true, true, true, true, true, true, true, false, false, false, false, false, false, false, false, false, false, false, false, false, false, false, false, false] rfl rfl (by kernel_rfl) (fun _ _ _ h => h) (Or.inl ⟨by rfl, ?_⟩) ?_ ?_
        rotate_left
        · intro w'
          go_simp
          with_reducible rfl
        rotate_left
        · simp only [Act.put, List.setIfInBounds_toArray, List.set_cons_zero, List.set_cons_succ, i64_w, i32_w]
          rfl
        refine pure_ (i := 8) (N := some 24) (v := ?_) (a' := ?_) #[true, true, true, true, true, true, true, true, true, false, false, false, false, false, false, false, false, false, false, false, false, false, false, false, false] rfl rfl (by kernel_rfl) (fun _ _ _ h => h) (Or.inl ⟨by rfl, ?_⟩) ?_ ?_
        rotate_left
        · intro w'
          go_simp
          with_reducible rfl
        rotate_left
        · simp only [Act.put, List.setIfInBounds_toArray, List.set_cons_zero, List.set_cons_succ, i64_w, i32_w]
          rfl
        refine pure_ (i := 9) (N := some 25) (v := ?_) (a' := ?_) #[true, true, true, true, true, true, true, true, true, true, false, false, false, false, false, false, false, false, false, false, false, false, false, false, false] rfl rfl (by kernel_rfl) (fun _ _ _ h => h) (Or.inl ⟨by rfl, ?_⟩) ?_ ?_
        rotate_left
        · intro w'
          go_simp
          with_reducible rfl
        rotate_left
        · simp only [Act.put, List.setIfInBounds_toArray, List.set_cons_zero, List.set_cons_succ, i64_w, i32_w]
          rfl
        refine pure_ (i := 10) (N := some 26) (v := undef) (a' := ?_) #[true, true, true, true, true, true, true, true, true, true, true, false, false, false, false, false, false, false, false, false, false, false, false, false, false] rfl rfl (by kernel_rfl) (fun _ _ _ h => h) (Or.inr ⟨by rfl, rfl⟩) ?_ ?_
        rotate_left
        · simp only [Act.put, List.setIfInBounds_toArray, List.set_cons_zero, List.set_cons_succ, i64_w, i32_w]
          rfl
        refine pure_ (i := 11) (N := some 27) (v := undef) (a' := ?_) #[true, true, true, true, true, true, true, true, true, true, true, true, false, false, false, false, false, false, false, false, false, false, false, false, false] rfl rfl (by kernel_rfl) (fun _ _ _ h => h) (Or.inr ⟨by rfl, rfl⟩) ?_ ?_
        rotate_left
        · simp only [Act.put, List.setIfInBounds_toArray, List.set_cons_zero, List.set_cons_succ, i64_w, i32_w]
          rfl
        refine pure_ (i := 12) (N := some 28) (v := undef) (a' := ?_) #[true, true, true, true, true, true, true, true, true, true, true, true, true, false, false, false, false, false, false, false, false, false, false, false, false] rfl rfl (by kernel_rfl) (fun _ _ _ h => h) (Or.inr ⟨by rfl, rfl⟩) ?_ ?_
        rotate_left
        · simp only [Act.put, List.setIfInBounds_toArray, List.set_cons_zero, List.set_cons_succ, i64_w, i32_w]
          rfl
        refine pure_ (i := 13) (N := some 29) (v := undef) (a' := ?_) #[true, true, true, true, true, true, true, true, true, true, true, true, true, true, false, false, false, false, false, false, false, false, false, false, false] rfl rfl (by kernel_rfl) (fun _ _ _ h => h) (Or.inr ⟨by rfl, rfl⟩) ?_ ?_
        rotate_left
        · simp only [Act.put, List.setIfInBounds_toArray, List.set_cons_zero, List.set_cons_succ, i64_w, i32_w]
          rfl
        refine pure_ (i := 14) (N := some 30) (v := undef) (a' := ?_) #[true, true, true, true, true, true, true, true, true, true, true, true, true, true, true, false, false, false, false, false, false, false, false, false, false] rfl rfl (by kernel_rfl) (fun _ _ _ h => h) (Or.inr ⟨by rfl, rfl⟩) ?_ ?_
        rotate_left
        · simp only [Act.put, List.setIfInBounds_toArray, List.set_cons_zero, List.set_cons_succ, i64_w, i32_w]
          rfl
        refine pure_ (i := 15) (N := some 31) (v := undef) (a' := ?_) #[true, true, true, true, true, true, true, true, true, true, true, true, true, true, true, true, false, false, false, false, false, false, false, false, false] rfl rfl (by kernel_rfl) (fun _ _ _ h => h) (Or.inr ⟨by rfl, rfl⟩) ?_ ?_
        rotate_left
        · simp only [Act.put, List.setIfInBounds_toArray, List.set_cons_zero, List.set_cons_succ, i64_w, i32_w]
          rfl
        refine pure_ (i := 16) (N := some 32) (v := undef) (a' := ?_) #[true, true, true, true, true, true, true, true, true, true, true, true, true, true, true, true, true, false, false, false, false, false, false, false, false] rfl rfl (by kernel_rfl) (fun _ _ _ h => h) (Or.inr ⟨by rfl, rfl⟩) ?_ ?_
        rotate_left
        · simp only [Act.put, List.setIfInBounds_toArray, List.set_cons_zero, List.set_cons_succ, i64_w, i32_w]
          rfl
        refine pure_ (i := 17) (N := some 33) (v := undef) (a' := ?_) #[true, true, true, true, true, true, true, true, true, true, true, true, true, true, true, true, true, true, false, false, false, false, false, false, false] rfl rfl (by kernel_rfl) (fun _ _ _ h => h) (Or.inr ⟨by rfl, rfl⟩) ?_ ?_
        rotate_left
        · simp only [Act.put, List.setIfInBounds_toArray, List.set_cons_zero, List.set_cons_succ, i64_w, i32_w]
          rfl
        refine pure_ (i := 18) (N := some 34) (v := undef) (a' := ?_) #[true, true, true, true, true, true, true, true, true, true, true, true, true, true, true, true, true, true, true, false, false, false, false, false, false] rfl rfl (by kernel_rfl) (fun _ _ _ h => h) (Or.inr ⟨by rfl, rfl⟩) ?_ ?_
        rotate_left
        · simp only [Act.put, List.setIfInBounds_toArray, List.set_cons_zero, List.set_cons_succ, i64_w, i32_w]
          rfl
        refine pure_ (i := 19) (N := some 35) (v := undef) (a' := ?_) #[true, true, true, true, true, true, true, true, true, true, true, true, true, true, true, true, true, true, true, true, false, false, false, false, false] rfl rfl (by kernel_rfl) (fun _ _ _ h => h) (Or.inr ⟨by rfl, rfl⟩) ?_ ?_
        rotate_left
        · simp only [Act.put, List.setIfInBounds_toArray, List.set_cons_zero, List.set_cons_succ, i64_w, i32_w]
          rfl
        refine pure_ (i := 20) (N := some 36) (v := undef) (a' := ?_) #[true, true, true, true, true, true, true, true, true, true, true, true, true, true, true, true, true, true, true, true, true, false, false, false, false] rfl rfl (by kernel_rfl) (fun _ _ _ h => h) (Or.inr ⟨by rfl, rfl⟩) ?_ ?_
        rotate_left
        · simp only [Act.put, List.setIfInBounds_toArray, List.set_cons_zero, List.set_cons_succ, i64_w, i32_w]
          rfl
        refine pure_ (i := 21) (N := some 37) (v := undef) (a' := ?_) #[true, true, true, true, true, true, true, true, true, true, true, true, true, true, true, true, true, true, true, true, true, true, false, false, false] rfl rfl (by kernel_rfl) (fun _ _ _ h => h) (Or.inr ⟨by rfl, rfl⟩) ?_ ?_
        rotate_left
        · simp only [Act.put, List.setIfInBounds_toArray, List.set_cons_zero, List.set_cons_succ, i64_w, i32_w]
          rfl
        refine pure_ (i := 22) (N := some 38) (v := undef) (a' := ?_) #[true, true, true, true, true, true, true, true, true, true, true, true, true, true, true, true, true, true, true, true, true, true, true, false, false] rfl rfl (by kernel_rfl) (fun _ _ _ h => h) (Or.inr ⟨by rfl, rfl⟩) ?_ ?_
        rotate_left
        · simp only [Act.put, List.setIfInBounds_toArray, List.set_cons_zero, List.set_cons_succ, i64_w, i32_w]
          rfl
        refine pure_ (i := 23) (N := some 39) (v := ?_) (a' := ?_) #[true, true, true, true, true, true, true, true, true, true, true, true, true, true, true, true, true, true, true, true, true, true, true, true, false] rfl rfl (by kernel_rfl) (fun _ _ _ h => h) (Or.inl ⟨by rfl, ?_⟩) ?_ ?_
        rotate_left
        · intro w'
          go_simp
          with_reducible rfl
        rotate_left
        · simp only [Act.put, List.setIfInBounds_toArray, List.set_cons_zero, List.set_cons_succ, i64_w, i32_w]
          rfl
        refine pure_ (i := 24) (N := some 40) (v := ?_) (a' := ?_) #[true, true, true, true, true, true, true, true, true, true, true, true, true, true, true, true, true, true, true, true, true, true, true, true, true] rfl rfl (by kernel_rfl) (fun _ _ _ h => h) (Or.inl ⟨by rfl, ?_⟩) ?_ ?_
        rotate_left
        · intro w'
          go_simp
          with_reducible rfl
        rotate_left
        · simp only [Act.put, List.setIfInBounds_toArray, List.set_cons_zero, List.set_cons_succ, i64_w, i32_w]
          rfl
        refine done_ (by kernel_rfl) ?_
        go_wp2
        go_meet
        case rel => exact ⟨_, (false), kr, H', ⟨by have := HK1.out; first | omega | exact Nat.le_refl _⟩, ⟨kR HO_3⟩, ⟨kR HO_4⟩, ⟨kB0 HB⟩⟩
     ·rw [if_neg c7] at H
      exact absurd H (by simp)
    case rest =>
     clear HC5
     try clear c1
     try clear p1
     try clear q1
     try clear hx1
     try clear p2
     try clear c4
     try clear c4b0
     try clear p6
     try clear c7
     try clear c7b0
     try clear c9
     try clear c10
     try clear c10b0
     try clear c10b1
     try clear c12
     try clear c12b0
     try clear p12
     try clear q12
     try clear hx12
     try clear c13
     try clear c13b0
     try clear p13
     try clear q13
     try clear hx13
     try clear hx129_0
     try clear hx131_0
     try clear hx133_0
     try clear p129
     try clear p131
     try clear p133
     try clear q129
     try clear q131
     try clear q133
     obtain ⟨kq, x40_4, rfl, HA, HJ4, HO_3, HO_4, HB⟩ := hcut
     cases kq with
     | zero => exact absurd HA.out (by simp [thicketref06_Distinct.j1])
     | succ kj4 =>
      have H := HA.out
      clear HA
      simp only [thicketref06_Distinct.j1] at H
      by_cases c18 : x40_4 = true
      ·subst c18
       have H1 : (thicketref06_Distinct.l0 kj4 t126 x4_1 (wrap64 (x5_1 + 1))) = some r := by rw [if_pos rfl] at H; exact H
       clear H
       have H := H1
       clear H1
       have H' := Aside0.mk H
       clear H
       go_wp2
       repeat (go_quiet (fail); try go_wp2)
       go_roundg kj4
       case measure => have := HK1.out; have := HJ4.out; omega
       case rel => exact ⟨(x4_1), (wrap64 (x5_1 + 1)), kr, H', ⟨by have := HK1.out; have := HJ4.out; omega⟩, ⟨kR HO_3⟩, ⟨kR HO_4⟩, ⟨kB0 HB⟩⟩
      ·replace c18 := Bool.eq_false_iff.mpr c18
       subst c18
       have H1 : (if 0 ≤ x5_1 then (if x5_1 < (t126.length : Int) then ((thicketref06_Key.f (rd t126 x5_1)).bind fun t136 => ((thicketref06_At.f t136).bind fun bt137 => (if x4_1.length < 17592186044416 then (thicketref06_Distinct.l0 kj4 t126 (x4_1 ++ [bt137.1]) (wrap64 (x5_1 + 1))) else (none)))) else (none)) else (none)) = some r := by rw [if_neg (show ¬ (false = true) by decide)] at H; exact H
       clear H
       have H := H1
       clear H1
       by_cases c19 : 0 ≤ x5_1
       ·rw [if_pos c19] at H
        have c19b0 : decide (0 ≤ x5_1) = true := decide_eq_true c19
        clear c19
        by_cases c20 : x5_1 < (t126.length : Int)
        ·rw [if_pos c20] at H
         have c20b0 : decide (x5_1 < (t126.length : Int)) = true := decide_eq_true c20
         clear c20
         replace H := Option.bind_eq_some_iff.mp H
         obtain ⟨t136, A210, H⟩ := H
         replace H : ((thicketref06_At.f t136).bind fun bt137 => (if x4_1.length < 17592186044416 then (thicketref06_Distinct.l0 kj4 t126 (x4_1 ++ [bt137.1]) (wrap64 (x5_1 + 1))) else (none))) = some r := H
         have A21 := Aside0.mk A210
         clear A210
         replace H := Option.bind_eq_some_iff.mp H
         obtain ⟨⟨t137, t138⟩, A220, H⟩ := H
         replace H : (if x4_1.length < 17592186044416 then (thicketref06_Distinct.l0 kj4 t126 (x4_1 ++ [t137]) (wrap64 (x5_1 + 1))) else (none)) = some r := H
         have A22 := Aside0.mk A220
         clear A220
         by_cases c23 : x4_1.length < 17592186044416
         ·rw [if_pos c23] at H
          have LMc23 := Aside0.mk c23
          clear c23
          obtain ⟨y139, hy139⟩ : ∃ y_ : List Int, y_ = (x4_1 ++ [t137]) := ⟨_, rfl⟩
          replace H : (thicketref06_Distinct.l0 kj4 t126 y139 (wrap64 (x5_1 + 1))) = some r := by first | (rw [hy139]; with_reducible exact H) | (have H2_ := (Option.bind_some _ _).symm.trans H; rw [hy139]; with_reducible exact H2_) | (have H2_ := (Option.bind_some _ _).symm.trans H; with_reducible exact H2_) | with_reducible exact H | (rw [hy139]; exact H) | exact H
          have Ny139 := Aside0.mk hy139
          clear hy139
          have H' := Aside0.mk H
          clear H
          have p135 : 0 ≤ (x5_1 : Int) := of_decide_eq_true ka
          have q135 : x5_1 < (t126.length : Int) := of_decide_eq_true ka
          obtain ⟨ad135, e135, hx135_0⟩ := Kd.at_int (Kd.R_reads' HO_3.out).2.2 x5_1 p135 q135
          cases e135
          replace p135 := eq_true p135
          replace q135 := eq_true q135
          go_wp2_with (first | (go_at_call 23; (with_reducible refine (thicketref06_Key.calls (rd t126 x5_1) t136 _ A21.out).mono ?_); rintro e w' ⟨rfl, ⟨nd, rfl⟩⟩; (try first | exact ⟨rfl, _, World.drewN_drewN _ _ _⟩ | exact ⟨rfl, _, Eq.trans (World.drewN_drewN _ _ _) (congrArg (World.drewN _) (Nat.add_assoc _ _ _))⟩)) | (go_at_call 28; (with_reducible refine (thicketref06_At.calls t136 t137 t138 _ A22.out).mono ?_); rintro e w' ⟨rfl, ⟨nd, rfl⟩⟩; (try first | exact ⟨rfl, _, World.drewN_drewN _ _ _⟩ | exact ⟨rfl, _, Eq.trans (World.drewN_drewN _ _ _) (congrArg (World.drewN _) (Nat.add_assoc _ _ _))⟩)) | ((with_reducible refine gate_builtin (b := .append) (xs := #[.tmp 50, .tmp 52]) rfl ?_); (try (refine gate_guard (by rfl) ?_; dsimp only)); at_builtin; refine Kd.R_append (Kd.int .u64) (w0 := w) w.heap.size rfl (.tmp 50) (.tmp 52) 22 23 (.int .u64 0) 8 rfl Try.underlying22 info23 rfl (by decide) (by omega) u4 x4_1 t137 [.int .u64 t137] (fun k_ => some k_ ≠ (.slice (some ad135) t126.length co6 : Value).ownBlock) (fun _ => False) rfl rfl ?aP (fun _ hk => hk.elim) ?aF ?aO ?aB ?aS ?aL ?_; (case aP => exact rfl); (case aB => exact (kB0 HB)); (case aF => exact (fun k_ hk => Kd.fresh' (Kd.R_lt (kR HO_3)) k_ hk)); (case aO => exact (kR HO_4)); (case aS => exact (below_size (kB0 HB))); (case aL => have := LMc23.out; omega); intro v140 w24 ho hb hg hat; rw [← Ny139.out] at ho; have n0_ := Aside0.mk (Kd.R_after (ok := (fun _ => True)) (by (with_reducible repeat (first | apply Kd.R_alloc | apply Kd.R_drewN | apply Kd.R_drew)); exact Kd.R_mono HO_3.out (fun _ hk => ⟨trivial, hk⟩)) hg hat); have n1_ := Aside0.mk (hb); have n2_ := Aside0.mk (ho); clear HO_3; clear HB; clear HO_4; have HO_3 := n0_; have HB := n1_; have HO141 := n2_; clear n0_ n1_ n2_; clear ho hb hg hat))
          repeat (go_quiet (first | (go_at_call 23; (with_reducible refine (thicketref06_Key.calls (rd t126 x5_1) t136 _ A21.out).mono ?_); rintro e w' ⟨rfl, ⟨nd, rfl⟩⟩; (try first | exact ⟨rfl, _, World.drewN_drewN _ _ _⟩ | exact ⟨rfl, _, Eq.trans (World.drewN_drewN _ _ _) (congrArg (World.drewN _) (Nat.add_assoc _ _ _))⟩)) | (go_at_call 28; (with_reducible refine (thicketref06_At.calls t136 t137 t138 _ A22.out).mono ?_); rintro e w' ⟨rfl, ⟨nd, rfl⟩⟩; (try first | exact ⟨rfl, _, World.drewN_drewN _ _ _⟩ | exact ⟨rfl, _, Eq.trans (World.drewN_drewN _ _ _) (congrArg (World.drewN _) (Nat.add_assoc _ _ _))⟩)) | ((with_reducible refine gate_builtin (b := .append) (xs := #[.tmp 50, .tmp 52]) rfl ?_); (try (refine gate_guard (by rfl) ?_; dsimp only)); at_builtin; refine Kd.R_append (Kd.int .u64) (w0 := w) w.heap.size rfl (.tmp 50) (.tmp 52) 22 23 (.int .u64 0) 8 rfl Try.underlying22 info23 rfl (by decide) (by omega) u4 x4_1 t137 [.int .u64 t137] (fun k_ => some k_ ≠ (.slice (some ad135) t126.length co6 : Value).ownBlock) (fun _ => False) rfl rfl ?aP (fun _ hk => hk.elim) ?aF ?aO ?aB ?aS ?aL ?_; (case aP => exact rfl); (case aB => exact (kB0 HB)); (case aF => exact (fun k_ hk => Kd.fresh' (Kd.R_lt (kR HO_3)) k_ hk)); (case aO => exact (kR HO_4)); (case aS => exact (below_size (kB0 HB))); (case aL => have := LMc23.out; omega); intro v140 w24 ho hb hg hat; rw [← Ny139.out] at ho; have n0_ := Aside0.mk (Kd.R_after (ok := (fun _ => True)) (by (with_reducible repeat (first | apply Kd.R_alloc | apply Kd.R_drewN | apply Kd.R_drew)); exact Kd.R_mono HO_3.out (fun _ hk => ⟨trivial, hk⟩)) hg hat); have n1_ := Aside0.mk (hb); have n2_ := Aside0.mk (ho); clear HO_3; clear HB; clear HO_4; have HO_3 := n0_; have HB := n1_; have HO141 := n2_; clear n0_ n1_ n2_; clear ho hb hg hat)); try go_wp2_with (first | (go_at_call 23; (with_reducible refine (thicketref06_Key.calls (rd t126 x5_1) t136 _ A21.out).mono ?_); rintro e w' ⟨rfl, ⟨nd, rfl⟩⟩; (try first | exact ⟨rfl, _, World.drewN_drewN _ _ _⟩ | exact ⟨rfl, _, Eq.trans (World.drewN_drewN _ _ _) (congrArg (World.drewN _) (Nat.add_assoc _ _ _))⟩)) | (go_at_call 28; (with_reducible refine (thicketref06_At.calls t136 t137 t138 _ A22.out).mono ?_); rintro e w' ⟨rfl, ⟨nd, rfl⟩⟩; (try first | exact ⟨rfl, _, World.drewN_drewN _ _ _⟩ | exact ⟨rfl, _, Eq.trans (World.drewN_drewN _ _ _) (congrArg (World.drewN _) (Nat.add_assoc _ _ _))⟩)) | ((with_reducible refine gate_builtin (b := .append) (xs := #[.tmp 50, .tmp 52]) rfl ?_); (try (refine gate_guard (by rfl) ?_; dsimp only)); at_builtin; refine Kd.R_append (Kd.int .u64) (w0 := w) w.heap.size rfl (.tmp 50) (.tmp 52) 22 23 (.int .u64 0) 8 rfl Try.underlying22 info23 rfl (by decide) (by omega) u4 x4_1 t137 [.int .u64 t137] (fun k_ => some k_ ≠ (.slice (some ad135) t126.length co6 : Value).ownBlock) (fun _ => False) rfl rfl ?aP (fun _ hk => hk.elim) ?aF ?aO ?aB ?aS ?aL ?_; (case aP => exact rfl); (case aB => exact (kB0 HB)); (case aF => exact (fun k_ hk => Kd.fresh' (Kd.R_lt (kR HO_3)) k_ hk)); (case aO => exact (kR HO_4)); (case aS => exact (below_size (kB0 HB))); (case aL => have := LMc23.out; omega); intro v140 w24 ho hb hg hat; rw [← Ny139.out] at ho; have n0_ := Aside0.mk (Kd.R_after (ok := (fun _ => True)) (by (with_reducible repeat (first | apply Kd.R_alloc | apply Kd.R_drewN | apply Kd.R_drew)); exact Kd.R_mono HO_3.out (fun _ hk => ⟨trivial, hk⟩)) hg hat); have n1_ := Aside0.mk (hb); have n2_ := Aside0.mk (ho); clear HO_3; clear HB; clear HO_4; have HO_3 := n0_; have HB := n1_; have HO141 := n2_; clear n0_ n1_ n2_; clear ho hb hg hat)))
          go_roundg kj4
          case measure => have := HK1.out; have := HJ4.out; omega
          case rel => exact ⟨(y139), (wrap64 (x5_1 + 1)), kr, H', ⟨by have := HK1.out; have := HJ4.out; omega⟩, ⟨by (with_reducible repeat (first | apply Kd.R_alloc | apply Kd.R_drewN | apply Kd.R_drew)); exact Kd.R_mono HO_3.out (fun _ hk => hk.2)⟩, ⟨kR HO141⟩, ⟨kB0 HB⟩⟩
         ·rw [if_neg c23] at H
          exact absurd H (by simp)
        ·rw [if_neg c20] at H
         exact absurd H (by simp)
       ·rw [if_neg c19] at H
        exact absurd H (by simp)
   ·rw [if_neg c4] at H
    have c4b0 : decide (x5_1 < (t126.length : Int)) = false := decide_eq_false c4
    clear c4
    obtain rfl := Option.some.inj H
    obtain ⟨Ao25, co25, eo25⟩ := Kd.R_slice HO_3.out
    subst eo25
    go_wp2
    repeat (go_quiet (fail); try go_wp2)
    go_ret
    exact ⟨_, by first | rfl | (simp [errW_none, errW_some] <;> rfl) | (simp [*, errW_none, errW_some] <;> rfl), by (with_reducible repeat (first | apply Kd.R_alloc | apply Kd.R_drewN | apply Kd.R_drew)); exact Kd.R_mono HO_4.out (fun _ hk => trivial), kB0 HB⟩
/-! ### order_Below: function 13 -/
def order_Below.l0 : Nat → Nat → Int → List Nat → Int → Int → Option (Int)
 | 0, _, _, _, _, _ => none
 | k + 1, x1, x5, x8, x9, x10 => if x10 < x9 then (if 0 ≤ x10 then (if x10 < (x8.length : Int) then ((order_Key.f (rdOf (0 : Nat) x8 x10)).bind fun t143 => ((order_Key.f x1).bind fun t144 => (if t143 < t144 then (order_Below.l0 k x1 (wrap64 (x5 + 1)) x8 x9 (wrap64 (x10 + 1))) else (order_Below.l0 k x1 x5 x8 x9 (wrap64 (x10 + 1)))))) else (none)) else (none)) else (some x5)
def order_Below.f (k : Nat) (l0 : List Nat) (a1 : Nat) : Option (Int) := order_Below.l0 k a1 0 l0 (l0.length : Int) 0
theorem order_Below.mono_l : ∀ k, (∀ y0 y1 y2 y3 y4, LeO (order_Below.l0 k y0 y1 y2 y3 y4) (order_Below.l0 (k + 1) y0 y1 y2 y3 y4))
 | 0 => fun _ _ _ _ _ r h => by simp [order_Below.l0] at h
 | k + 1 => by
  have ih0 := order_Below.mono_l k
  ·intro y0 y1 y2 y3 y4
   unfold order_Below.l0
   repeat' first
   | (with_reducible exact ih0 _ _ _ _ _)
   | (with_reducible exact LeO.refl _)
   | (with_reducible exact LeO.none _)
   | (with_reducible refine LeO.ite ?_ ?_)
   | (with_reducible refine LeO.bind ?_ (fun _ => ?_))
   | exact ih0 _ _ _ _ _
   | exact LeO.none _
   | refine LeO.ite ?_ ?_
   | refine LeO.bind ?_ (fun _ => ?_)
theorem order_Below.mono : ∀ a0 a1 k, LeO (order_Below.f k a0 a1) (order_Below.f (k + 1) a0 a1) := by
 intro a0 a1 k
 have ih0 := order_Below.mono_l k
 unfold order_Below.f
 repeat' first
   | (with_reducible exact ih0 _ _ _ _ _)
   | (with_reducible exact LeO.refl _)
   | (with_reducible exact LeO.none _)
   | (with_reducible refine LeO.ite ?_ ?_)
   | (with_reducible refine LeO.bind ?_ (fun _ => ?_))
   | exact ih0 _ _ _ _ _
   | exact LeO.none _
   | refine LeO.ite ?_ ?_
   | refine LeO.bind ?_ (fun _ => ?_)
set_option maxHeartbeats 8000000 in
set_option maxRecDepth 100000 in
theorem order_Below.calls (k : Nat) (A0 : Option Addr) (c0 : Nat) (l0 : List Nat) (a1 : Nat) (r : Int) (w : World) (hr0 : Kd.C Kd.f64 w A0 l0.length l0) (hc0 : l0.length ≤ c0) (h : order_Below.f k l0 a1 = some r) :
  Calls Try.prog 13 #[.slice A0 l0.length c0, .float .f64 a1] w fun e w' => e = .returned (.int .i64 r) ∧ Drawn0 w w' := by
 have HR0 := Aside0.mk hr0
 have HC0 := Aside0.mk hc0
 clear hr0 hc0
 have H : (order_Below.l0 k a1 0 l0 (l0.length : Int) 0) = some r := h
 clear h
 have H' := Aside0.mk H
 clear H
 go_enter Try.func13, Try.ntmps13
 go_wp2
 go_loopg [5, 10] k (fun kq v5 v10 w' => ∃ (x5_1 : Int) (x10_1 : Int), v5 = .int .i64 x5_1 ∧ v10 = .int .i64 x10_1 ∧ Aside0 (order_Below.l0 kq a1 x5_1 l0 (l0.length : Int) x10_1 = some r) ∧ Aside0 (kq ≤ k) ∧ Drawn0 w w')
 case atStart => exact ⟨(0), (0), kr, kr, H', ⟨Nat.le_refl _⟩, by repeat (first | exact Drawn0.refl _ | apply Drawn0.step)⟩
 case round =>
  clear H'
  try clear c1
  try clear p2
  obtain ⟨x5_1, x10_1, rfl, rfl, HA, HK1, ⟨m1, rfl⟩⟩ := hrel
  cases gk with
  | zero => exact absurd HA.out (by simp [order_Below.l0])
  | succ k1 =>
   have H := HA.out
   clear HA
   simp only [order_Below.l0] at H
   by_cases c3 : x10_1 < (l0.length : Int)
   ·rw [if_pos c3] at H
    have c3b0 : decide (x10_1 < (l0.length : Int)) = true := decide_eq_true c3
    clear c3
    by_cases c4 : 0 ≤ x10_1
    ·rw [if_pos c4] at H
     have c4b0 : decide (0 ≤ x10_1) = true := decide_eq_true c4
     clear c4
     by_cases c5 : x10_1 < (l0.length : Int)
     ·rw [if_pos c5] at H
      have c5b0 : decide (x10_1 < (l0.length : Int)) = true := decide_eq_true c5
      clear c5
      replace H := Option.bind_eq_some_iff.mp H
      obtain ⟨t143, A60, H⟩ := H
      replace H : ((order_Key.f a1).bind fun t144 => (if t143 < t144 then (order_Below.l0 k1 a1 (wrap64 (x5_1 + 1)) l0 (l0.length : Int) (wrap64 (x10_1 + 1))) else (order_Below.l0 k1 a1 x5_1 l0 (l0.length : Int) (wrap64 (x10_1 + 1))))) = some r := H
      have A6 := Aside0.mk A60
      clear A60
      replace H := Option.bind_eq_some_iff.mp H
      obtain ⟨t144, A70, H⟩ := H
      replace H : (if t143 < t144 then (order_Below.l0 k1 a1 (wrap64 (x5_1 + 1)) l0 (l0.length : Int) (wrap64 (x10_1 + 1))) else (order_Below.l0 k1 a1 x5_1 l0 (l0.length : Int) (wrap64 (x10_1 + 1)))) = some r := H
      have A7 := Aside0.mk A70
      clear A70
      by_cases c8 : t143 < t144
      ·rw [if_pos c8] at H
       have c8b0 : decide (t143 < t144) = true := decide_eq_true c8
       clear c8
       have H' := Aside0.mk H
       clear H
       have p142 : 0 ≤ (x10_1 : Int) := of_decide_eq_true ka
       have q142 : x10_1 < (l0.length : Int) := of_decide_eq_true ka
       obtain ⟨ad142, e142, hx142_0⟩ := Kd.at_f64 HR0.out x10_1 p142 q142
       cases e142
       replace p142 := eq_true p142
       replace q142 := eq_true q142
       go_wp2_with (first | ((with_reducible refine gate_callee (f := 24) rfl ?_); refine goesL_ (some 15) rfl rfl Try.func24 (by kernel_rfl) rfl #[.float .f64 (rdOf (0 : Nat) l0 x10_1)] rfl (by (try simp only [List.map_toArray, List.map_cons, List.map_nil]); first | done | rfl | (simp only [List.length_drop, List.length_take]; rfl)) ?_; (with_reducible refine (order_Key.calls (rdOf (0 : Nat) l0 x10_1) t143 _ A6.out).mono ?_); rintro e w' ⟨rfl, ⟨nd, rfl⟩⟩; refine ⟨_, rfl, ?_⟩) | ((with_reducible refine gate_callee (f := 24) rfl ?_); refine goesL_ (some 17) rfl rfl Try.func24 (by kernel_rfl) rfl #[.float .f64 a1] rfl (by (try simp only [List.map_toArray, List.map_cons, List.map_nil]); first | done | rfl | (simp only [List.length_drop, List.length_take]; rfl)) ?_; (with_reducible refine (order_Key.calls a1 t144 _ A7.out).mono ?_); rintro e w' ⟨rfl, ⟨nd, rfl⟩⟩; refine ⟨_, rfl, ?_⟩))
       go_roundg k1
       case measure => have := HK1.out; omega
       case rel => exact ⟨(wrap64 (x5_1 + 1)), (wrap64 (x10_1 + 1)), kr, kr, H', ⟨by have := HK1.out; omega⟩, by repeat (first | exact Drawn0.refl _ | apply Drawn0.step)⟩
      ·rw [if_neg c8] at H
       have c8b0 : decide (t143 < t144) = false := decide_eq_false c8
       clear c8
       have H' := Aside0.mk H
       clear H
       have p142 : 0 ≤ (x10_1 : Int) := of_decide_eq_true ka
       have q142 : x10_1 < (l0.length : Int) := of_decide_eq_true ka
       obtain ⟨ad142, e142, hx142_0⟩ := Kd.at_f64 HR0.out x10_1 p142 q142
       cases e142
       replace p142 := eq_true p142
       replace q142 := eq_true q142
       go_wp2_with (first | ((with_reducible refine gate_callee (f := 24) rfl ?_); refine goesL_ (some 15) rfl rfl Try.func24 (by kernel_rfl) rfl #[.float .f64 (rdOf (0 : Nat) l0 x10_1)] rfl (by (try simp only [List.map_toArray, List.map_cons, List.map_nil]); first | done | rfl | (simp only [List.length_drop, List.length_take]; rfl)) ?_; (with_reducible refine (order_Key.calls (rdOf (0 : Nat) l0 x10_1) t143 _ A6.out).mono ?_); rintro e w' ⟨rfl, ⟨nd, rfl⟩⟩; refine ⟨_, rfl, ?_⟩) | ((with_reducible refine gate_callee (f := 24) rfl ?_); refine goesL_ (some 17) rfl rfl Try.func24 (by kernel_rfl) rfl #[.float .f64 a1] rfl (by (try simp only [List.map_toArray, List.map_cons, List.map_nil]); first | done | rfl | (simp only [List.length_drop, List.length_take]; rfl)) ?_; (with_reducible refine (order_Key.calls a1 t144 _ A7.out).mono ?_); rintro e w' ⟨rfl, ⟨nd, rfl⟩⟩; refine ⟨_, rfl, ?_⟩))
       go_roundg k1
       case measure => have := HK1.out; omega
       case rel => exact ⟨(x5_1), (wrap64 (x10_1 + 1)), kr, kr, H', ⟨by have := HK1.out; omega⟩, by repeat (first | exact Drawn0.refl _ | apply Drawn0.step)⟩
     ·rw [if_neg c5] at H
      exact absurd H (by simp)
    ·rw [if_neg c4] at H
     exact absurd H (by simp)
   ·rw [if_neg c3] at H
    have c3b0 : decide (x10_1 < (l0.length : Int)) = false := decide_eq_false c3
    clear c3
    obtain rfl := Option.some.inj H
    go_wp2
    go_ret
    exact ⟨by first | rfl | (simp; done) | (simp [*]; done), by repeat (first | exact Drawn0.refl _ | apply Drawn0.step)⟩
/-! ### thicketref06_Below: function 14 -/
def thicketref06_Below.l0 : Nat → List Int → Int → Int → Int → Option (Int)
 | 0, _, _, _, _ => none
 | k + 1, x0, x1, x5, x6 => if x6 < (x0.length : Int) then (if 0 ≤ x6 then ((thicketref06_Key.f (rd x0 x6)).bind fun t146 => ((thicketref06_Key.f x1).bind fun t147 => (if t146 < t147 then (thicketref06_Below.l0 k x0 x1 (wrap64 (x5 + 1)) (wrap64 (x6 + 1))) else (thicketref06_Below.l0 k x0 x1 x5 (wrap64 (x6 + 1)))))) else (none)) else (some x5)
def thicketref06_Below.f (k : Nat) (l0 : List Int) (a1 : Int) : Option (Int) := thicketref06_Below.l0 k l0 a1 0 0
theorem thicketref06_Below.mono_l : ∀ k, (∀ y0 y1 y2 y3, LeO (thicketref06_Below.l0 k y0 y1 y2 y3) (thicketref06_Below.l0 (k + 1) y0 y1 y2 y3))
 | 0 => fun _ _ _ _ r h => by simp [thicketref06_Below.l0] at h
 | k + 1 => by
  have ih0 := thicketref06_Below.mono_l k
  ·intro y0 y1 y2 y3
   unfold thicketref06_Below.l0
   repeat' first
   | (with_reducible exact ih0 _ _ _ _)
   | (with_reducible exact LeO.refl _)
   | (with_reducible exact LeO.none _)
   | (with_reducible refine LeO.ite ?_ ?_)
   | (with_reducible refine LeO.bind ?_ (fun _ => ?_))
   | exact ih0 _ _ _ _
   | exact LeO.none _
   | refine LeO.ite ?_ ?_
   | refine LeO.bind ?_ (fun _ => ?_)
theorem thicketref06_Below.mono : ∀ a0 a1 k, LeO (thicketref06_Below.f k a0 a1) (thicketref06_Below.f (k + 1) a0 a1) := by
 intro a0 a1 k
 have ih0 := thicketref06_Below.mono_l k
 unfold thicketref06_Below.f
 repeat' first
   | (with_reducible exact ih0 _ _ _ _)
   | (with_reducible exact LeO.refl _)
   | (with_reducible exact LeO.none _)
   | (with_reducible refine LeO.ite ?_ ?_)
   | (with_reducible refine LeO.bind ?_ (fun _ => ?_))
   | exact ih0 _ _ _ _
   | exact LeO.none _
   | refine LeO.ite ?_ ?_
   | refine LeO.bind ?_ (fun _ => ?_)
set_option maxHeartbeats 8000000 in
set_option maxRecDepth 100000 in
theorem thicketref06_Below.calls (k : Nat) (A0 : Option Addr) (c0 : Nat) (l0 : List Int) (a1 : Int) (r : Int) (w : World) (hr0 : Kd.C (Kd.int .u64) w A0 l0.length l0) (hc0 : l0.length ≤ c0) (h : thicketref06_Below.f k l0 a1 = some r) :
  Calls Try.prog 14 #[.slice A0 l0.length c0, .int .u64 a1] w fun e w' => e = .returned (.int .i64 r) ∧ Drawn0 w w' := by
 have HR0 := Aside0.mk hr0
 have HC0 := Aside0.mk hc0
 clear hr0 hc0
 have H : (thicketref06_Below.l0 k l0 a1 0 0) = some r := h
 clear h
 have H' := Aside0.mk H
 clear H
 go_enter Try.func14, Try.ntmps14
 go_wp2
 go_loopg [5, 6] k (fun kq v5 v6 w' => ∃ (x5_1 : Int) (x6_1 : Int), v5 = .int .i64 x5_1 ∧ v6 = .int .i64 x6_1 ∧ Aside0 (thicketref06_Below.l0 kq l0 a1 x5_1 x6_1 = some r) ∧ Aside0 (kq ≤ k) ∧ Drawn0 w w')
 case atStart => exact ⟨(0), (0), kr, kr, H', ⟨Nat.le_refl _⟩, by repeat (first | exact Drawn0.refl _ | apply Drawn0.step)⟩
 case round =>
  clear H'
  try clear c1
  try clear p2
  obtain ⟨x5_1, x6_1, rfl, rfl, HA, HK1, ⟨m1, rfl⟩⟩ := hrel
  cases gk with
  | zero => exact absurd HA.out (by simp [thicketref06_Below.l0])
  | succ k1 =>
   have H := HA.out
   clear HA
   simp only [thicketref06_Below.l0] at H
   by_cases c3 : x6_1 < (l0.length : Int)
   ·rw [if_pos c3] at H
    have c3b0 : decide (x6_1 < (l0.length : Int)) = true := decide_eq_true c3
    clear c3
    by_cases c4 : 0 ≤ x6_1
    ·rw [if_pos c4] at H
     have c4b0 : decide (0 ≤ x6_1) = true := decide_eq_true c4
     clear c4
     replace H := Option.bind_eq_some_iff.mp H
     obtain ⟨t146, A50, H⟩ := H
     replace H : ((thicketref06_Key.f a1).bind fun t147 => (if t146 < t147 then (thicketref06_Below.l0 k1 l0 a1 (wrap64 (x5_1 + 1)) (wrap64 (x6_1 + 1))) else (thicketref06_Below.l0 k1 l0 a1 x5_1 (wrap64 (x6_1 + 1))))) = some r := H
     have A5 := Aside0.mk A50
     clear A50
     replace H := Option.bind_eq_some_iff.mp H
     obtain ⟨t147, A60, H⟩ := H
     replace H : (if t146 < t147 then (thicketref06_Below.l0 k1 l0 a1 (wrap64 (x5_1 + 1)) (wrap64 (x6_1 + 1))) else (thicketref06_Below.l0 k1 l0 a1 x5_1 (wrap64 (x6_1 + 1)))) = some r := H
     have A6 := Aside0.mk A60
     clear A60
     by_cases c7 : t146 < t147
     ·rw [if_pos c7] at H
      have c7b0 : decide (t146 < t147) = true := decide_eq_true c7
      clear c7
      have H' := Aside0.mk H
      clear H
      have p145 : 0 ≤ (x6_1 : Int) := of_decide_eq_true ka
      have q145 : x6_1 < (l0.length : Int) := of_decide_eq_true ka
      obtain ⟨ad145, e145, hx145_0⟩ := Kd.at_int HR0.out x6_1 p145 q145
      cases e145
      replace p145 := eq_true p145
      replace q145 := eq_true q145
      go_wp2_with (first | ((with_reducible refine gate_callee (f := 23) rfl ?_); refine goesL_ (some 17) rfl rfl Try.func23 (by kernel_rfl) rfl #[.int .u64 (rd l0 x6_1)] rfl (by (try simp only [List.map_toArray, List.map_cons, List.map_nil]); first | done | rfl | (simp only [List.length_drop, List.length_take]; rfl)) ?_; (with_reducible refine (thicketref06_Key.calls (rd l0 x6_1) t146 _ A5.out).mono ?_); rintro e w' ⟨rfl, ⟨nd, rfl⟩⟩; refine ⟨_, rfl, ?_⟩) | ((with_reducible refine gate_callee (f := 23) rfl ?_); refine goesL_ (some 19) rfl rfl Try.func23 (by kernel_rfl) rfl #[.int .u64 a1] rfl (by (try simp only [List.map_toArray, List.map_cons, List.map_nil]); first | done | rfl | (simp only [List.length_drop, List.length_take]; rfl)) ?_; (with_reducible refine (thicketref06_Key.calls a1 t147 _ A6.out).mono ?_); rintro e w' ⟨rfl, ⟨nd, rfl⟩⟩; refine ⟨_, rfl, ?_⟩))
      go_roundg k1
      case measure => have := HK1.out; omega
      case rel => exact ⟨(wrap64 (x5_1 + 1)), (wrap64 (x6_1 + 1)), kr, kr, H', ⟨by have := HK1.out; omega⟩, by repeat (first | exact Drawn0.refl _ | apply Drawn0.step)⟩
     ·rw [if_neg c7] at H
      have c7b0 : decide (t146 < t147) = false := decide_eq_false c7
      clear c7
      have H' := Aside0.mk H
      clear H
      have p145 : 0 ≤ (x6_1 : Int) := of_decide_eq_true ka
      have q145 : x6_1 < (l0.length : Int) := of_decide_eq_true ka
      obtain ⟨ad145, e145, hx145_0⟩ := Kd.at_int HR0.out x6_1 p145 q145
      cases e145
      replace p145 := eq_true p145
      replace q145 := eq_true q145
      go_wp2_with (first | ((with_reducible refine gate_callee (f := 23) rfl ?_); refine goesL_ (some 17) rfl rfl Try.func23 (by kernel_rfl) rfl #[.int .u64 (rd l0 x6_1)] rfl (by (try simp only [List.map_toArray, List.map_cons, List.map_nil]); first | done | rfl | (simp only [List.length_drop, List.length_take]; rfl)) ?_; (with_reducible refine (thicketref06_Key.calls (rd l0 x6_1) t146 _ A5.out).mono ?_); rintro e w' ⟨rfl, ⟨nd, rfl⟩⟩; refine ⟨_, rfl, ?_⟩) | ((with_reducible refine gate_callee (f := 23) rfl ?_); refine goesL_ (some 19) rfl rfl Try.func23 (by kernel_rfl) rfl #[.int .u64 a1] rfl (by (try simp only [List.map_toArray, List.map_cons, List.map_nil]); first | done | rfl | (simp only [List.length_drop, List.length_take]; rfl)) ?_; (with_reducible refine (thicketref06_Key.calls a1 t147 _ A6.out).mono ?_); rintro e w' ⟨rfl, ⟨nd, rfl⟩⟩; refine ⟨_, rfl, ?_⟩))
      go_roundg k1
      case measure => have := HK1.out; omega
      case rel => exact ⟨(x5_1), (wrap64 (x6_1 + 1)), kr, kr, H', ⟨by have := HK1.out; omega⟩, by repeat (first | exact Drawn0.refl _ | apply Drawn0.step)⟩
    ·rw [if_neg c4] at H
     exact absurd H (by simp)
   ·rw [if_neg c3] at H
    have c3b0 : decide (x6_1 < (l0.length : Int)) = false := decide_eq_false c3
    clear c3
    obtain rfl := Option.some.inj H
    go_wp2
    go_ret
    exact ⟨by first | rfl | (simp; done) | (simp [*]; done), by repeat (first | exact Drawn0.refl _ | apply Drawn0.step)⟩
/-! ### thicketlaw06_OrderLists: function 3 -/
def thicketlaw06_OrderLists.f (k : Nat) (l0 : List Int) (a1 : Int) : Option (Bool) := (thicketlaw06_list.f k l0).bind fun t148 => ((some (([4620130267728707584, 4620974692658839552] : List Nat) : List Nat)).bind fun y151 => (if t148.length + y151.length < 17592186044416 then ((some (t148 ++ y151 : List Nat)).bind fun y154 => (if 0 ≤ (l0.length : Int) then (if (l0.length : Int) ≤ (y154.length : Int) then ((some (y154.take ((l0.length : Int) : Int).toNat : List Nat)).bind fun y157 => ((order_Sorted.f y157).bind fun t161 => ((thicketref06_Sorted.f k l0).bind fun t164 => ((thicketlaw06_are.f k t161 t164).bind fun t167 => (if t167 = true then ((order_Distinct.f y157).bind fun t168 => ((thicketref06_Distinct.f k l0).bind fun t171 => ((thicketlaw06_are.f k t168 t171).bind fun t174 => (if t174 = true then ((order_Below.f k y157 (f64from a1)).bind fun t175 => ((thicketref06_Below.f k l0 a1).bind fun t176 => (if t175 = t176 then ((thicketlaw06_are.f k y157 l0).bind fun t177 => (if t177 = true then (if (l0.length : Int) < (y154.length : Int) then (if (feq (rdOf (0 : Nat) y154 (l0.length : Int)) 4620130267728707584) = true then (if 0 ≤ (wrap64 ((l0.length : Int) + 1)) then (if (wrap64 ((l0.length : Int) + 1)) < (y154.length : Int) then (some (feq (rdOf (0 : Nat) y154 (wrap64 ((l0.length : Int) + 1))) 4620974692658839552)) else (none)) else (none)) else (some false)) else (none)) else (some false))) else (some false)))) else (some false))))) else (some false)))))) else (none)) else (none))) else (none)))
theorem thicketlaw06_OrderLists.mono : ∀ a0 a1 k, LeO (thicketlaw06_OrderLists.f k a0 a1) (thicketlaw06_OrderLists.f (k + 1) a0 a1) := by
 intro a0 a1 k
 unfold thicketlaw06_OrderLists.f
 repeat' first
   | (with_reducible exact order_Below.mono _ _ _)
   | (with_reducible exact thicketlaw06_are.mono _ _ _)
   | (with_reducible exact thicketlaw06_list.mono _ _)
   | (with_reducible exact thicketref06_Below.mono _ _ _)
   | (with_reducible exact thicketref06_Distinct.mono _ _)
   | (with_reducible exact thicketref06_Sorted.mono _ _)
   | (with_reducible exact LeO.refl _)
   | (with_reducible exact LeO.none _)
   | (with_reducible refine LeO.ite ?_ ?_)
   | (with_reducible refine LeO.bind ?_ (fun _ => ?_))
   | exact order_Below.mono _ _ _
   | exact thicketlaw06_are.mono _ _ _
   | exact thicketlaw06_list.mono _ _
   | exact thicketref06_Below.mono _ _ _
   | exact thicketref06_Distinct.mono _ _
   | exact thicketref06_Sorted.mono _ _
   | exact LeO.none _
   | refine LeO.ite ?_ ?_
   | refine LeO.bind ?_ (fun _ => ?_)
set_option maxHeartbeats 8000000 in
set_option maxRecDepth 100000 in
theorem thicketlaw06_OrderLists.calls (k : Nat) (A0 : Option Addr) (c0 : Nat) (l0 : List Int) (a1 : Int) (r : Bool) (w : World) (hr0 : Kd.C (Kd.int .u64) w A0 l0.length l0) (hc0 : l0.length ≤ c0) (h : thicketlaw06_OrderLists.f k l0 a1 = some r) :
  Calls Try.prog 3 #[.slice A0 l0.length c0, .int .u64 a1] w fun e w' => e = .returned (.bool r) ∧ Below w.heap.size w w' := by
 have HR0 := Aside0.mk hr0
 have HC0 := Aside0.mk hc0
 clear hr0 hc0
 have HB := Aside0.mk (Below.refl w.heap.size w)
 have H : ((thicketlaw06_list.f k l0).bind fun t148 => ((some (([4620130267728707584, 4620974692658839552] : List Nat) : List Nat)).bind fun y151 => (if t148.length + y151.length < 17592186044416 then ((some (t148 ++ y151 : List Nat)).bind fun y154 => (if 0 ≤ (l0.length : Int) then (if (l0.length : Int) ≤ (y154.length : Int) then ((some (y154.take ((l0.length : Int) : Int).toNat : List Nat)).bind fun y157 => ((order_Sorted.f y157).bind fun t161 => ((thicketref06_Sorted.f k l0).bind fun t164 => ((thicketlaw06_are.f k t161 t164).bind fun t167 => (if t167 = true then ((order_Distinct.f y157).bind fun t168 => ((thicketref06_Distinct.f k l0).bind fun t171 => ((thicketlaw06_are.f k t168 t171).bind fun t174 => (if t174 = true then ((order_Below.f k y157 (f64from a1)).bind fun t175 => ((thicketref06_Below.f k l0 a1).bind fun t176 => (if t175 = t176 then ((thicketlaw06_are.f k y157 l0).bind fun t177 => (if t177 = true then (if (l0.length : Int) < (y154.length : Int) then (if (feq (rdOf (0 : Nat) y154 (l0.length : Int)) 4620130267728707584) = true then (if 0 ≤ (wrap64 ((l0.length : Int) + 1)) then (if (wrap64 ((l0.length : Int) + 1)) < (y154.length : Int) then (some (feq (rdOf (0 : Nat) y154 (wrap64 ((l0.length : Int) + 1))) 4620974692658839552)) else (none)) else (none)) else (some false)) else (none)) else (some false))) else (some false)))) else (some false))))) else (some false)))))) else (none)) else (none))) else (none)))) = some r := h
 clear h
 replace H := Option.bind_eq_some_iff.mp H
 obtain ⟨t148, A30, H⟩ := H
 replace H : ((some (([4620130267728707584, 4620974692658839552] : List Nat) : List Nat)).bind fun y151 => (if t148.length + y151.length < 17592186044416 then ((some (t148 ++ y151 : List Nat)).bind fun y154 => (if 0 ≤ (l0.length : Int) then (if (l0.length : Int) ≤ (y154.length : Int) then ((some (y154.take ((l0.length : Int) : Int).toNat : List Nat)).bind fun y157 => ((order_Sorted.f y157).bind fun t161 => ((thicketref06_Sorted.f k l0).bind fun t164 => ((thicketlaw06_are.f k t161 t164).bind fun t167 => (if t167 = true then ((order_Distinct.f y157).bind fun t168 => ((thicketref06_Distinct.f k l0).bind fun t171 => ((thicketlaw06_are.f k t168 t171).bind fun t174 => (if t174 = true then ((order_Below.f k y157 (f64from a1)).bind fun t175 => ((thicketref06_Below.f k l0 a1).bind fun t176 => (if t175 = t176 then ((thicketlaw06_are.f k y157 l0).bind fun t177 => (if t177 = true then (if (l0.length : Int) < (y154.length : Int) then (if (feq (rdOf (0 : Nat) y154 (l0.length : Int)) 4620130267728707584) = true then (if 0 ≤ (wrap64 ((l0.length : Int) + 1)) then (if (wrap64 ((l0.length : Int) + 1)) < (y154.length : Int) then (some (feq (rdOf (0 : Nat) y154 (wrap64 ((l0.length : Int) + 1))) 4620974692658839552)) else (none)) else (none)) else (some false)) else (none)) else (some false))) else (some false)))) else (some false))))) else (some false)))))) else (none)) else (none))) else (none))) = some r := H
 have A3 := Aside0.mk A30
 clear A30
 obtain ⟨y151, hy151⟩ : ∃ y_ : List Nat, y_ = (([4620130267728707584, 4620974692658839552] : List Nat)) := ⟨_, rfl⟩
 replace H : (if t148.length + y151.length < 17592186044416 then ((some (t148 ++ y151 : List Nat)).bind fun y154 => (if 0 ≤ (l0.length : Int) then (if (l0.length : Int) ≤ (y154.length : Int) then ((some (y154.take ((l0.length : Int) : Int).toNat : List Nat)).bind fun y157 => ((order_Sorted.f y157).bind fun t161 => ((thicketref06_Sorted.f k l0).bind fun t164 => ((thicketlaw06_are.f k t161 t164).bind fun t167 => (if t167 = true then ((order_Distinct.f y157).bind fun t168 => ((thicketref06_Distinct.f k l0).bind fun t171 => ((thicketlaw06_are.f k t168 t171).bind fun t174 => (if t174 = true then ((order_Below.f k y157 (f64from a1)).bind fun t175 => ((thicketref06_Below.f k l0 a1).bind fun t176 => (if t175 = t176 then ((thicketlaw06_are.f k y157 l0).bind fun t177 => (if t177 = true then (if (l0.length : Int) < (y154.length : Int) then (if (feq (rdOf (0 : Nat) y154 (l0.length : Int)) 4620130267728707584) = true then (if 0 ≤ (wrap64 ((l0.length : Int) + 1)) then (if (wrap64 ((l0.length : Int) + 1)) < (y154.length : Int) then (some (feq (rdOf (0 : Nat) y154 (wrap64 ((l0.length : Int) + 1))) 4620974692658839552)) else (none)) else (none)) else (some false)) else (none)) else (some false))) else (some false)))) else (some false))))) else (some false)))))) else (none)) else (none))) else (none)) = some r := by first | (rw [hy151]; with_reducible exact H) | (have H2_ := (Option.bind_some _ _).symm.trans H; rw [hy151]; with_reducible exact H2_) | (have H2_ := (Option.bind_some _ _).symm.trans H; with_reducible exact H2_) | with_reducible exact H | (rw [hy151]; exact H) | exact H
 have Ny151 := Aside0.mk hy151
 clear hy151
 by_cases c4 : t148.length + y151.length < 17592186044416
 ·rw [if_pos c4] at H
  have LMc4 := Aside0.mk c4
  clear c4
  obtain ⟨y154, hy154⟩ : ∃ y_ : List Nat, y_ = (t148 ++ y151) := ⟨_, rfl⟩
  replace H : (if 0 ≤ (l0.length : Int) then (if (l0.length : Int) ≤ (y154.length : Int) then ((some (y154.take ((l0.length : Int) : Int).toNat : List Nat)).bind fun y157 => ((order_Sorted.f y157).bind fun t161 => ((thicketref06_Sorted.f k l0).bind fun t164 => ((thicketlaw06_are.f k t161 t164).bind fun t167 => (if t167 = true then ((order_Distinct.f y157).bind fun t168 => ((thicketref06_Distinct.f k l0).bind fun t171 => ((thicketlaw06_are.f k t168 t171).bind fun t174 => (if t174 = true then ((order_Below.f k y157 (f64from a1)).bind fun t175 => ((thicketref06_Below.f k l0 a1).bind fun t176 => (if t175 = t176 then ((thicketlaw06_are.f k y157 l0).bind fun t177 => (if t177 = true then (if (l0.length : Int) < (y154.length : Int) then (if (feq (rdOf (0 : Nat) y154 (l0.length : Int)) 4620130267728707584) = true then (if 0 ≤ (wrap64 ((l0.length : Int) + 1)) then (if (wrap64 ((l0.length : Int) + 1)) < (y154.length : Int) then (some (feq (rdOf (0 : Nat) y154 (wrap64 ((l0.length : Int) + 1))) 4620974692658839552)) else (none)) else (none)) else (some false)) else (none)) else (some false))) else (some false)))) else (some false))))) else (some false)))))) else (none)) else (none)) = some r := by first | (rw [hy154]; with_reducible exact H) | (have H2_ := (Option.bind_some _ _).symm.trans H; rw [hy154]; with_reducible exact H2_) | (have H2_ := (Option.bind_some _ _).symm.trans H; with_reducible exact H2_) | with_reducible exact H | (rw [hy154]; exact H) | exact H
  have Ny154 := Aside0.mk hy154
  clear hy154
  by_cases c5 : 0 ≤ (l0.length : Int)
  ·rw [if_pos c5] at H
   have c5b0 := eq_true c5
   have c5b1 : decide (0 ≤ (l0.length : Int)) = true := decide_eq_true c5
   clear c5
   by_cases c6 : (l0.length : Int) ≤ (y154.length : Int)
   ·rw [if_pos c6] at H
    have c6b0 := eq_true c6
    have c6b1 : decide ((l0.length : Int) ≤ (y154.length : Int)) = true := decide_eq_true c6
    clear c6
    obtain ⟨y157, hy157⟩ : ∃ y_ : List Nat, y_ = (y154.take ((l0.length : Int) : Int).toNat) := ⟨_, rfl⟩
    replace H : ((order_Sorted.f y157).bind fun t161 => ((thicketref06_Sorted.f k l0).bind fun t164 => ((thicketlaw06_are.f k t161 t164).bind fun t167 => (if t167 = true then ((order_Distinct.f y157).bind fun t168 => ((thicketref06_Distinct.f k l0).bind fun t171 => ((thicketlaw06_are.f k t168 t171).bind fun t174 => (if t174 = true then ((order_Below.f k y157 (f64from a1)).bind fun t175 => ((thicketref06_Below.f k l0 a1).bind fun t176 => (if t175 = t176 then ((thicketlaw06_are.f k y157 l0).bind fun t177 => (if t177 = true then (if (l0.length : Int) < (y154.length : Int) then (if (feq (rdOf (0 : Nat) y154 (l0.length : Int)) 4620130267728707584) = true then (if 0 ≤ (wrap64 ((l0.length : Int) + 1)) then (if (wrap64 ((l0.length : Int) + 1)) < (y154.length : Int) then (some (feq (rdOf (0 : Nat) y154 (wrap64 ((l0.length : Int) + 1))) 4620974692658839552)) else (none)) else (none)) else (some false)) else (none)) else (some false))) else (some false)))) else (some false))))) else (some false))))) = some r := by first | (rw [hy157]; with_reducible exact H) | (have H2_ := (Option.bind_some _ _).symm.trans H; rw [hy157]; with_reducible exact H2_) | (have H2_ := (Option.bind_some _ _).symm.trans H; with_reducible exact H2_) | with_reducible exact H | (rw [hy157]; exact H) | exact H
    have Ny157 := Aside0.mk hy157
    clear hy157
    replace H := Option.bind_eq_some_iff.mp H
    obtain ⟨t161, A70, H⟩ := H
    replace H : ((thicketref06_Sorted.f k l0).bind fun t164 => ((thicketlaw06_are.f k t161 t164).bind fun t167 => (if t167 = true then ((order_Distinct.f y157).bind fun t168 => ((thicketref06_Distinct.f k l0).bind fun t171 => ((thicketlaw06_are.f k t168 t171).bind fun t174 => (if t174 = true then ((order_Below.f k y157 (f64from a1)).bind fun t175 => ((thicketref06_Below.f k l0 a1).bind fun t176 => (if t175 = t176 then ((thicketlaw06_are.f k y157 l0).bind fun t177 => (if t177 = true then (if (l0.length : Int) < (y154.length : Int) then (if (feq (rdOf (0 : Nat) y154 (l0.length : Int)) 4620130267728707584) = true then (if 0 ≤ (wrap64 ((l0.length : Int) + 1)) then (if (wrap64 ((l0.length : Int) + 1)) < (y154.length : Int) then (some (feq (rdOf (0 : Nat) y154 (wrap64 ((l0.length : Int) + 1))) 4620974692658839552)) else (none)) else (none)) else (some false)) else (none)) else (some false))) else (some false)))) else (some false))))) else (some false)))) = some r := H
    have A7 := Aside0.mk A70
    clear A70
    replace H := Option.bind_eq_some_iff.mp H
    obtain ⟨t164, A80, H⟩ := H
    replace H : ((thicketlaw06_are.f k t161 t164).bind fun t167 => (if t167 = true then ((order_Distinct.f y157).bind fun t168 => ((thicketref06_Distinct.f k l0).bind fun t171 => ((thicketlaw06_are.f k t168 t171).bind fun t174 => (if t174 = true then ((order_Below.f k y157 (f64from a1)).bind fun t175 => ((thicketref06_Below.f k l0 a1).bind fun t176 => (if t175 = t176 then ((thicketlaw06_are.f k y157 l0).bind fun t177 => (if t177 = true then (if (l0.length : Int) < (y154.length : Int) then (if (feq (rdOf (0 : Nat) y154 (l0.length : Int)) 4620130267728707584) = true then (if 0 ≤ (wrap64 ((l0.length : Int) + 1)) then (if (wrap64 ((l0.length : Int) + 1)) < (y154.length : Int) then (some (feq (rdOf (0 : Nat) y154 (wrap64 ((l0.length : Int) + 1))) 4620974692658839552)) else (none)) else (none)) else (some false)) else (none)) else (some false))) else (some false)))) else (some false))))) else (some false))) = some r := H
    have A8 := Aside0.mk A80
    clear A80
    replace H := Option.bind_eq_some_iff.mp H
    obtain ⟨t167, A90, H⟩ := H
    replace H : (if t167 = true then ((order_Distinct.f y157).bind fun t168 => ((thicketref06_Distinct.f k l0).bind fun t171 => ((thicketlaw06_are.f k t168 t171).bind fun t174 => (if t174 = true then ((order_Below.f k y157 (f64from a1)).bind fun t175 => ((thicketref06_Below.f k l0 a1).bind fun t176 => (if t175 = t176 then ((thicketlaw06_are.f k y157 l0).bind fun t177 => (if t177 = true then (if (l0.length : Int) < (y154.length : Int) then (if (feq (rdOf (0 : Nat) y154 (l0.length : Int)) 4620130267728707584) = true then (if 0 ≤ (wrap64 ((l0.length : Int) + 1)) then (if (wrap64 ((l0.length : Int) + 1)) < (y154.length : Int) then (some (feq (rdOf (0 : Nat) y154 (wrap64 ((l0.length : Int) + 1))) 4620974692658839552)) else (none)) else (none)) else (some false)) else (none)) else (some false))) else (some false)))) else (some false))))) else (some false)) = some r := H
    have A9 := Aside0.mk A90
    clear A90
    by_cases c10 : t167 = true
    ·subst c10
     have H1 : ((order_Distinct.f y157).bind fun t168 => ((thicketref06_Distinct.f k l0).bind fun t171 => ((thicketlaw06_are.f k t168 t171).bind fun t174 => (if t174 = true then ((order_Below.f k y157 (f64from a1)).bind fun t175 => ((thicketref06_Below.f k l0 a1).bind fun t176 => (if t175 = t176 then ((thicketlaw06_are.f k y157 l0).bind fun t177 => (if t177 = true then (if (l0.length : Int) < (y154.length : Int) then (if (feq (rdOf (0 : Nat) y154 (l0.length : Int)) 4620130267728707584) = true then (if 0 ≤ (wrap64 ((l0.length : Int) + 1)) then (if (wrap64 ((l0.length : Int) + 1)) < (y154.length : Int) then (some (feq (rdOf (0 : Nat) y154 (wrap64 ((l0.length : Int) + 1))) 4620974692658839552)) else (none)) else (none)) else (some false)) else (none)) else (some false))) else (some false)))) else (some false))))) = some r := by rw [if_pos rfl] at H; exact H
     clear H
     have H := H1
     clear H1
     replace H := Option.bind_eq_some_iff.mp H
     obtain ⟨t168, A110, H⟩ := H
     replace H : ((thicketref06_Distinct.f k l0).bind fun t171 => ((thicketlaw06_are.f k t168 t171).bind fun t174 => (if t174 = true then ((order_Below.f k y157 (f64from a1)).bind fun t175 => ((thicketref06_Below.f k l0 a1).bind fun t176 => (if t175 = t176 then ((thicketlaw06_are.f k y157 l0).bind fun t177 => (if t177 = true then (if (l0.length : Int) < (y154.length : Int) then (if (feq (rdOf (0 : Nat) y154 (l0.length : Int)) 4620130267728707584) = true then (if 0 ≤ (wrap64 ((l0.length : Int) + 1)) then (if (wrap64 ((l0.length : Int) + 1)) < (y154.length : Int) then (some (feq (rdOf (0 : Nat) y154 (wrap64 ((l0.length : Int) + 1))) 4620974692658839552)) else (none)) else (none)) else (some false)) else (none)) else (some false))) else (some false)))) else (some false)))) = some r := H
     have A11 := Aside0.mk A110
     clear A110
     replace H := Option.bind_eq_some_iff.mp H
     obtain ⟨t171, A120, H⟩ := H
     replace H : ((thicketlaw06_are.f k t168 t171).bind fun t174 => (if t174 = true then ((order_Below.f k y157 (f64from a1)).bind fun t175 => ((thicketref06_Below.f k l0 a1).bind fun t176 => (if t175 = t176 then ((thicketlaw06_are.f k y157 l0).bind fun t177 => (if t177 = true then (if (l0.length : Int) < (y154.length : Int) then (if (feq (rdOf (0 : Nat) y154 (l0.length : Int)) 4620130267728707584) = true then (if 0 ≤ (wrap64 ((l0.length : Int) + 1)) then (if (wrap64 ((l0.length : Int) + 1)) < (y154.length : Int) then (some (feq (rdOf (0 : Nat) y154 (wrap64 ((l0.length : Int) + 1))) 4620974692658839552)) else (none)) else (none)) else (some false)) else (none)) else (some false))) else (some false)))) else (some false))) = some r := H
     have A12 := Aside0.mk A120
     clear A120
     replace H := Option.bind_eq_some_iff.mp H
     obtain ⟨t174, A130, H⟩ := H
     replace H : (if t174 = true then ((order_Below.f k y157 (f64from a1)).bind fun t175 => ((thicketref06_Below.f k l0 a1).bind fun t176 => (if t175 = t176 then ((thicketlaw06_are.f k y157 l0).bind fun t177 => (if t177 = true then (if (l0.length : Int) < (y154.length : Int) then (if (feq (rdOf (0 : Nat) y154 (l0.length : Int)) 4620130267728707584) = true then (if 0 ≤ (wrap64 ((l0.length : Int) + 1)) then (if (wrap64 ((l0.length : Int) + 1)) < (y154.length : Int) then (some (feq (rdOf (0 : Nat) y154 (wrap64 ((l0.length : Int) + 1))) 4620974692658839552)) else (none)) else (none)) else (some false)) else (none)) else (some false))) else (some false)))) else (some false)) = some r := H
     have A13 := Aside0.mk A130
     clear A130
     by_cases c14 : t174 = true
     ·subst c14
      have H1 : ((order_Below.f k y157 (f64from a1)).bind fun t175 => ((thicketref06_Below.f k l0 a1).bind fun t176 => (if t175 = t176 then ((thicketlaw06_are.f k y157 l0).bind fun t177 => (if t177 = true then (if (l0.length : Int) < (y154.length : Int) then (if (feq (rdOf (0 : Nat) y154 (l0.length : Int)) 4620130267728707584) = true then (if 0 ≤ (wrap64 ((l0.length : Int) + 1)) then (if (wrap64 ((l0.length : Int) + 1)) < (y154.length : Int) then (some (feq (rdOf (0 : Nat) y154 (wrap64 ((l0.length : Int) + 1))) 4620974692658839552)) else (none)) else (none)) else (some false)) else (none)) else (some false))) else (some false)))) = some r := by rw [if_pos rfl] at H; exact H
      clear H
      have H := H1
      clear H1
      replace H := Option.bind_eq_some_iff.mp H
      obtain ⟨t175, A150, H⟩ := H
      replace H : ((thicketref06_Below.f k l0 a1).bind fun t176 => (if t175 = t176 then ((thicketlaw06_are.f k y157 l0).bind fun t177 => (if t177 = true then (if (l0.length : Int) < (y154.length : Int) then (if (feq (rdOf (0 : Nat) y154 (l0.length : Int)) 4620130267728707584) = true then (if 0 ≤ (wrap64 ((l0.length : Int) + 1)) then (if (wrap64 ((l0.length : Int) + 1)) < (y154.length : Int) then (some (feq (rdOf (0 : Nat) y154 (wrap64 ((l0.length : Int) + 1))) 4620974692658839552)) else (none)) else (none)) else (some false)) else (none)) else (some false))) else (some false))) = some r := H
      have A15 := Aside0.mk A150
      clear A150
      replace H := Option.bind_eq_some_iff.mp H
      obtain ⟨t176, A160, H⟩ := H
      replace H : (if t175 = t176 then ((thicketlaw06_are.f k y157 l0).bind fun t177 => (if t177 = true then (if (l0.length : Int) < (y154.length : Int) then (if (feq (rdOf (0 : Nat) y154 (l0.length : Int)) 4620130267728707584) = true then (if 0 ≤ (wrap64 ((l0.length : Int) + 1)) then (if (wrap64 ((l0.length : Int) + 1)) < (y154.length : Int) then (some (feq (rdOf (0 : Nat) y154 (wrap64 ((l0.length : Int) + 1))) 4620974692658839552)) else (none)) else (none)) else (some false)) else (none)) else (some false))) else (some false)) = some r := H
      have A16 := Aside0.mk A160
      clear A160
      by_cases c17 : t175 = t176
      ·rw [if_pos c17] at H
       have c17b0 : (t175 == t176) = true := beq_iff_eq.mpr c17
       have c17b1 : (t175 != t176) = false := bne_eq_false_iff_eq.mpr c17
       clear c17
       replace H := Option.bind_eq_some_iff.mp H
       obtain ⟨t177, A180, H⟩ := H
       replace H : (if t177 = true then (if (l0.length : Int) < (y154.length : Int) then (if (feq (rdOf (0 : Nat) y154 (l0.length : Int)) 4620130267728707584) = true then (if 0 ≤ (wrap64 ((l0.length : Int) + 1)) then (if (wrap64 ((l0.length : Int) + 1)) < (y154.length : Int) then (some (feq (rdOf (0 : Nat) y154 (wrap64 ((l0.length : Int) + 1))) 4620974692658839552)) else (none)) else (none)) else (some false)) else (none)) else (some false)) = some r := H
       have A18 := Aside0.mk A180
       clear A180
       by_cases c19 : t177 = true
       ·subst c19
        have H1 : (if (l0.length : Int) < (y154.length : Int) then (if (feq (rdOf (0 : Nat) y154 (l0.length : Int)) 4620130267728707584) = true then (if 0 ≤ (wrap64 ((l0.length : Int) + 1)) then (if (wrap64 ((l0.length : Int) + 1)) < (y154.length : Int) then (some (feq (rdOf (0 : Nat) y154 (wrap64 ((l0.length : Int) + 1))) 4620974692658839552)) else (none)) else (none)) else (some false)) else (none)) = some r := by rw [if_pos rfl] at H; exact H
        clear H
        have H := H1
        clear H1
        by_cases c20 : (l0.length : Int) < (y154.length : Int)
        ·rw [if_pos c20] at H
         have c20b0 : decide ((l0.length : Int) < (y154.length : Int)) = true := decide_eq_true c20
         have c20b1 : decide (l0.length < y154.length) = true := decide_eq_true (Int.ofNat_lt.mp c20)
         clear c20
         by_cases c21 : (feq (rdOf (0 : Nat) y154 (l0.length : Int)) 4620130267728707584) = true
         ·rw [if_pos c21] at H
          have c21b0 : (feq (rdOf (0 : Nat) y154 (l0.length : Int)) 4620130267728707584) = true := c21
          clear c21
          obtain ⟨ji22, hji22⟩ : ∃ j_ : Int, (wrap64 ((l0.length : Int) + 1)) = j_ := ⟨_, rfl⟩
          replace H : (if 0 ≤ (ji22) then (if (ji22) < (y154.length : Int) then (some (feq (rdOf (0 : Nat) y154 (ji22)) 4620974692658839552)) else (none)) else (none)) = some r := by first | (rw [hji22] at H; exact H) | (simp only [hji22] at H ⊢; exact H)
          (try rw [hji22] at A3)
          (try rw [hji22] at A7)
          (try rw [hji22] at A8)
          (try rw [hji22] at A9)
          (try rw [hji22] at A11)
          (try rw [hji22] at A12)
          (try rw [hji22] at A13)
          (try rw [hji22] at A15)
          (try rw [hji22] at A16)
          (try rw [hji22] at A18)
          have hji22w : (IntKind.i64.wrap ((l0.length : Int) + 1)) = ji22 := (i64_w _).trans hji22
          by_cases c23 : 0 ≤ (ji22)
          ·rw [if_pos c23] at H
           have c23b0 : decide (0 ≤ (ji22)) = true := decide_eq_true c23
           clear c23
           by_cases c24 : (ji22) < (y154.length : Int)
           ·rw [if_pos c24] at H
            have c24b0 : decide ((ji22) < (y154.length : Int)) = true := decide_eq_true c24
            clear c24
            obtain rfl := Option.some.inj H
            go_enter Try.func3, Try.ntmps3
            go_wp2_with (first | ((with_reducible refine gate_callee (f := 6) rfl ?_); refine goesL_ (some 10) rfl rfl Try.func6 (by kernel_rfl) rfl #[.slice A0 l0.length c0] rfl (by (try simp only [List.map_toArray, List.map_cons, List.map_nil]); first | done | rfl | (simp only [List.length_drop, List.length_take]; rfl)) ?_; (with_reducible refine (thicketlaw06_list.calls k _ _ l0 t148 _ ?side1 ?side2 A3.out).mono ?_); (case side1 => repeat (first | exact HR0.out | (with_reducible refine Kd.C_alloc ?_ _) | (with_reducible refine Kd.C_drewN ?_ _) | (with_reducible refine Kd.C_drew ?_))); (case side2 => exact HC0.out); rintro e w25 ⟨v149, rfl, ho0, hb⟩; refine ⟨_, rfl, ?_⟩; have n0_ := Aside0.mk (Kd.R_lower ho0 (below_size (kB0 HB))); have n1_ := Aside0.mk (below_step (kB0 HB) hb); clear HB; have HO150 := n0_; have HB := n1_; clear n0_ n1_; (try clear hb); (try clear hb2); (try clear hk); (try clear hi); (try clear ho0)) | ((with_reducible refine gate_dst (N := 11) rfl ?_); (try (refine gate_guard (by rfl) ?_; dsimp only)); refine Kd.R_lit Kd.f64 _ 26 ?hg (N := 11) ?hd (xs := ([4620130267728707584, 4620974692658839552] : List Nat)) (inner := [.float .f64 4620130267728707584, .float .f64 4620974692658839552]) (ok := fun _ => True) (okp := fun _ => True) ?hr ?hp (fun _ hk => hk) trivial (Below.refl _ _) (Nat.le_refl _) (by simp) ?_; (case hd => rfl); (case hg => rfl); (case hr => first | (go_simp; done) | (go_simp; rfl)); (case hp => exact (Reps.one (show Kd.M Kd.f64 _ _ _ 4620130267728707584 [.float .f64 4620130267728707584] from rfl) (Reps.one (show Kd.M Kd.f64 _ _ _ 4620974692658839552 [.float .f64 4620974692658839552] from rfl) (Reps.none _ _)))); intro v152 w26 ho27 hb hg_ hnew_; clear hg_ hnew_; (first | rw [← Ny151.out] at ho27 | (simp only [Int.reduceToNat] at ho27; rw [← Ny151.out] at ho27)); have n0_ := Aside0.mk (Kd.R_elder' (kR HO150) (Kd.R_base ho27) hb); have n1_ := Aside0.mk (Kd.R_lower (Kd.R_new' ho27 (Kd.R_lt (kR HO150))) (below_size (kB0 HB))); have n2_ := Aside0.mk (below_step (kB0 HB) hb); clear HO150; clear HB; have HO150 := n0_; have HO153 := n1_; have HB := n2_; clear n0_ n1_ n2_; clear hb ho27; obtain ⟨Ao29, co29, eo29⟩ := Kd.R_slice HO153.out; subst eo29) | ((with_reducible refine gate_builtin (b := .append) (xs := #[.tmp 10, .tmp 11]) rfl ?_); (try (refine gate_guard (by rfl) ?_; dsimp only)); at_builtin; refine Kd.R_append_rows Kd.f64 (w0 := w) w.heap.size rfl (.tmp 10) (.tmp 11) 24 26 (.float .f64 0) 8 rfl Try.underlying24 info26 rfl (by decide) (by omega) v149 t148 y151 _ _ _ (fun k_ => some k_ ≠ (.slice Ao29 y151.length co29 : Value).ownBlock) (fun _ => False) rfl rfl ?aO ?aR (fun _ _ h => h) (fun _ h => h.elim) ?aF ?aB ?aS ?aL ?_; (case aR => repeat (first | exact (Kd.R_reads' HO153.out).2.2 | (with_reducible refine Kd.C_alloc ?_ _) | (with_reducible refine Kd.C_drewN ?_ _) | (with_reducible refine Kd.C_drew ?_))); (case aB => exact (kB0 HB)); (case aF => exact (fun k_ hk => Kd.fresh' (Kd.R_lt (kR HO153)) k_ hk)); (case aO => exact (by (with_reducible repeat (first | apply Kd.R_alloc | apply Kd.R_drewN | apply Kd.R_drew)); exact Kd.R_mono HO150.out (fun _ hk => hk.2))); (case aS => exact (below_size (kB0 HB))); (case aL => have := LMc4.out; omega); intro v155 w28 ho hb hg hat; rw [← Ny154.out] at ho; have n0_ := Aside0.mk (Kd.R_after (ok := (fun _ => True)) (kR HO153) hg hat); have n1_ := Aside0.mk (hb); have n2_ := Aside0.mk (ho); clear HO153; clear HB; clear HO150; have HO153 := n0_; have HB := n1_; have HO156 := n2_; clear n0_ n1_ n2_; clear ho hb hg hat; obtain ⟨Ao31, co31, eo31⟩ := Kd.R_slice HO156.out; subst eo31; have q30 : ((l0.length : Int) : Int) ≤ ((y154.length : Int) : Int) := of_decide_eq_true ka; obtain ⟨i030, hi030, _, hsz30, _⟩ := info_parts info26; have hroom30 : y154.length ≤ co31 := (Kd.R_reads' HO156.out).2.1; have hC30 : Kd.C Kd.f64 _ Ao31 y154.length y154 := (Kd.R_reads' HO156.out).2.2; have hcut30 := cut_to (P := Try.prog) 24 26 .i64 Try.underlying24 hi030 Ao31 y154.length co31 (l0.length : Int) (of_decide_eq_true ka) q30 hroom30; have hr30 := Kd.C_take (m := ((l0.length : Int) : Int).toNat) hC30 (by omega); have hy30 : y157.length = ((l0.length : Int) : Int).toNat := (by rw [Ny157.out, List.length_take]; omega); rw [← Ny157.out] at hr30; rw [← hy30] at hcut30; have HR160 := Aside0.mk hr30; have HC160 := Aside0.mk (show y157.length ≤ co31 from by omega); clear hr30 hC30 hroom30 hi030 hsz30; have KY30 := Aside0.mk hy30; clear hy30; have KL30 := Aside0.mk (show ((l0.length : Int) : Int).toNat ≤ y154.length from by omega); replace q30 := eq_true q30) | ((with_reducible refine gate_callee (f := 9) rfl ?_); refine goesL_ (some 20) rfl rfl Try.func9 (by kernel_rfl) rfl #[.slice Ao31 y157.length co31] rfl (by (try simp only [List.map_toArray, List.map_cons, List.map_nil]); first | done | rfl | (simp only [List.length_drop, List.length_take]; rfl)) ?_; (with_reducible refine (order_Sorted.calls _ _ y157 t161 _ ?side1 ?side2 A7.out).mono ?_); (case side1 => repeat (first | exact (by repeat (first | (with_reducible exact HR160.out) | (with_reducible refine Kd.C_alloc ?_ _) | (with_reducible refine Kd.C_drewN ?_ _) | (with_reducible refine Kd.C_drew ?_) | exact HR160.out)) | (with_reducible refine Kd.C_alloc ?_ _) | (with_reducible refine Kd.C_drewN ?_ _) | (with_reducible refine Kd.C_drew ?_))); (case side2 => exact HC160.out); rintro e w32 ⟨v162, rfl, ho0, hb⟩; refine ⟨_, rfl, ?_⟩; have n0_ := Aside0.mk (Kd.R_elder' (kR HO153) (Kd.R_base ho0) hb); have n1_ := Aside0.mk (Kd.R_elder' (kR HO156) (Kd.R_base ho0) hb); have n2_ := Aside0.mk (Kd.R_lower (Kd.R_new' (Kd.R_new' ho0 (Kd.R_lt (kR HO153))) (Kd.R_lt (kR HO156))) (below_size (kB0 HB))); have n3_ := Aside0.mk (Kd.C_below (by repeat (first | (with_reducible exact HR160.out) | (with_reducible refine Kd.C_alloc ?_ _) | (with_reducible refine Kd.C_drewN ?_ _) | (with_reducible refine Kd.C_drew ?_) | exact HR160.out)) hb); have n4_ := Aside0.mk (below_step (kB0 HB) hb); clear HO153; clear HO156; clear HR160; clear HB; have HO153 := n0_; have HO156 := n1_; have HO163 := n2_; have HR160 := n3_; have HB := n4_; clear n0_ n1_ n2_ n3_ n4_; (try clear hb); (try clear hb2); (try clear hk); (try clear hi); (try clear ho0)) | ((with_reducible refine gate_callee (f := 10) rfl ?_); refine goesL_ (some 22) rfl rfl Try.func10 (by kernel_rfl) rfl #[.slice A0 l0.length c0] rfl (by (try simp only [List.map_toArray, List.map_cons, List.map_nil]); first | done | rfl | (simp only [List.length_drop, List.length_take]; rfl)) ?_; (with_reducible refine (thicketref06_Sorted.calls k _ _ l0 t164 _ ?side1 ?side2 A8.out).mono ?_); (case side1 => repeat (first | exact (Kd.C_below HR0.out HB.out) | (with_reducible refine Kd.C_alloc ?_ _) | (with_reducible refine Kd.C_drewN ?_ _) | (with_reducible refine Kd.C_drew ?_))); (case side2 => exact HC0.out); rintro e w33 ⟨v165, rfl, ho0, hb⟩; refine ⟨_, rfl, ?_⟩; have n0_ := Aside0.mk (Kd.R_below (kR HO153) hb); have n1_ := Aside0.mk (Kd.R_below (kR HO156) hb); have n2_ := Aside0.mk (Kd.R_below (kR HO163) hb); have n3_ := Aside0.mk (Kd.R_lower ho0 (below_size (kB0 HB))); have n4_ := Aside0.mk (Kd.C_below (by repeat (first | (with_reducible exact HR160.out) | (with_reducible refine Kd.C_alloc ?_ _) | (with_reducible refine Kd.C_drewN ?_ _) | (with_reducible refine Kd.C_drew ?_) | exact HR160.out)) hb); have n5_ := Aside0.mk (below_step (kB0 HB) hb); clear HO153; clear HO156; clear HO163; clear HR160; clear HB; have HO153 := n0_; have HO156 := n1_; have HO163 := n2_; have HO166 := n3_; have HR160 := n4_; have HB := n5_; clear n0_ n1_ n2_ n3_ n4_ n5_; (try clear hb); (try clear hb2); (try clear hk); (try clear hi); (try clear ho0); obtain ⟨Ao34, co34, eo34⟩ := Kd.R_slice HO163.out; subst eo34; obtain ⟨Ao35, co35, eo35⟩ := Kd.R_slice HO166.out; subst eo35) | ((with_reducible refine gate_callee (f := 8) rfl ?_); refine goesL_ (some 23) rfl rfl Try.func8 (by kernel_rfl) rfl #[.slice Ao34 t161.length co34, .slice Ao35 t164.length co35] rfl (by (try simp only [List.map_toArray, List.map_cons, List.map_nil]); first | done | rfl | (simp only [List.length_drop, List.length_take]; rfl)) ?_; (with_reducible refine (thicketlaw06_are.calls k _ _ t161 _ _ t164 true _ ?side1 ?side2 ?side3 ?side4 A9.out).mono ?_); (case side1 => repeat (first | exact (Kd.R_reads' HO163.out).2.2 | (with_reducible refine Kd.C_alloc ?_ _) | (with_reducible refine Kd.C_drewN ?_ _) | (with_reducible refine Kd.C_drew ?_))); (case side2 => exact (Kd.R_reads' HO163.out).2.1); (case side3 => repeat (first | exact (Kd.R_reads' HO166.out).2.2 | (with_reducible refine Kd.C_alloc ?_ _) | (with_reducible refine Kd.C_drewN ?_ _) | (with_reducible refine Kd.C_drew ?_))); (case side4 => exact (Kd.R_reads' HO166.out).2.1); rintro e w' ⟨rfl, ⟨nd, rfl⟩⟩; refine ⟨_, rfl, ?_⟩) | (go_at_call 11; (with_reducible refine (order_Distinct.calls _ _ y157 t168 _ ?side1 ?side2 A11.out).mono ?_); (case side1 => repeat (first | exact (by repeat (first | (with_reducible exact HR160.out) | (with_reducible refine Kd.C_alloc ?_ _) | (with_reducible refine Kd.C_drewN ?_ _) | (with_reducible refine Kd.C_drew ?_) | exact HR160.out)) | (with_reducible refine Kd.C_alloc ?_ _) | (with_reducible refine Kd.C_drewN ?_ _) | (with_reducible refine Kd.C_drew ?_))); (case side2 => exact HC160.out); rintro e w36 ⟨v169, rfl, ho0, hb⟩; have n0_ := Aside0.mk (Kd.R_elder' (kR HO153) (Kd.R_base ho0) hb); have n1_ := Aside0.mk (Kd.R_elder' (kR HO156) (Kd.R_base ho0) hb); have n2_ := Aside0.mk (Kd.R_elder' (kR HO163) (Kd.R_base ho0) hb); have n3_ := Aside0.mk (Kd.R_below (kR HO166) hb); have n4_ := Aside0.mk (Kd.R_lower (Kd.R_new' (Kd.R_new' (Kd.R_new' ho0 (Kd.R_lt (kR HO153))) (Kd.R_lt (kR HO156))) (Kd.R_lt (kR HO163))) (below_size (kB0 HB))); have n5_ := Aside0.mk (Kd.C_below (by repeat (first | (with_reducible exact HR160.out) | (with_reducible refine Kd.C_alloc ?_ _) | (with_reducible refine Kd.C_drewN ?_ _) | (with_reducible refine Kd.C_drew ?_) | exact HR160.out)) hb); have n6_ := Aside0.mk (below_step (kB0 HB) hb); clear HO153; clear HO156; clear HO163; clear HO166; clear HR160; clear HB; have HO153 := n0_; have HO156 := n1_; have HO163 := n2_; have HO166 := n3_; have HO170 := n4_; have HR160 := n5_; have HB := n6_; clear n0_ n1_ n2_ n3_ n4_ n5_ n6_; (try clear hb); (try clear hb2); (try clear hk); (try clear hi); (try clear ho0)) | (go_at_call 12; (with_reducible refine (thicketref06_Distinct.calls k _ _ l0 t171 _ ?side1 ?side2 A12.out).mono ?_); (case side1 => repeat (first | exact (Kd.C_below HR0.out HB.out) | (with_reducible refine Kd.C_alloc ?_ _) | (with_reducible refine Kd.C_drewN ?_ _) | (with_reducible refine Kd.C_drew ?_))); (case side2 => exact HC0.out); rintro e w37 ⟨v172, rfl, ho0, hb⟩; have n0_ := Aside0.mk (Kd.R_below (kR HO153) hb); have n1_ := Aside0.mk (Kd.R_below (kR HO156) hb); have n2_ := Aside0.mk (Kd.R_below (kR HO163) hb); have n3_ := Aside0.mk (Kd.R_elder' (kR HO166) (Kd.R_base ho0) hb); have n4_ := Aside0.mk (Kd.R_below (kR HO170) hb); have n5_ := Aside0.mk (Kd.R_lower (Kd.R_new' ho0 (Kd.R_lt (kR HO166))) (below_size (kB0 HB))); have n6_ := Aside0.mk (Kd.C_below (by repeat (first | (with_reducible exact HR160.out) | (with_reducible refine Kd.C_alloc ?_ _) | (with_reducible refine Kd.C_drewN ?_ _) | (with_reducible refine Kd.C_drew ?_) | exact HR160.out)) hb); have n7_ := Aside0.mk (below_step (kB0 HB) hb); clear HO153; clear HO156; clear HO163; clear HO166; clear HO170; clear HR160; clear HB; have HO153 := n0_; have HO156 := n1_; have HO163 := n2_; have HO166 := n3_; have HO170 := n4_; have HO173 := n5_; have HR160 := n6_; have HB := n7_; clear n0_ n1_ n2_ n3_ n4_ n5_ n6_ n7_; (try clear hb); (try clear hb2); (try clear hk); (try clear hi); (try clear ho0); obtain ⟨Ao38, co38, eo38⟩ := Kd.R_slice HO170.out; subst eo38; obtain ⟨Ao39, co39, eo39⟩ := Kd.R_slice HO173.out; subst eo39) | (go_at_call 8; (with_reducible refine (thicketlaw06_are.calls k _ _ t168 _ _ t171 true _ ?side1 ?side2 ?side3 ?side4 A13.out).mono ?_); (case side1 => repeat (first | exact (Kd.R_reads' HO170.out).2.2 | (with_reducible refine Kd.C_alloc ?_ _) | (with_reducible refine Kd.C_drewN ?_ _) | (with_reducible refine Kd.C_drew ?_))); (case side2 => exact (Kd.R_reads' HO170.out).2.1); (case side3 => repeat (first | exact (Kd.R_reads' HO173.out).2.2 | (with_reducible refine Kd.C_alloc ?_ _) | (with_reducible refine Kd.C_drewN ?_ _) | (with_reducible refine Kd.C_drew ?_))); (case side4 => exact (Kd.R_reads' HO173.out).2.1); rintro e w' ⟨rfl, ⟨nd, rfl⟩⟩) | (go_at_call 13; (with_reducible refine (order_Below.calls k _ _ y157 (f64from a1) t175 _ ?side1 ?side2 A15.out).mono ?_); (case side1 => repeat (first | exact (by repeat (first | (with_reducible exact HR160.out) | (with_reducible refine Kd.C_alloc ?_ _) | (with_reducible refine Kd.C_drewN ?_ _) | (with_reducible refine Kd.C_drew ?_) | exact HR160.out)) | (with_reducible refine Kd.C_alloc ?_ _) | (with_reducible refine Kd.C_drewN ?_ _) | (with_reducible refine Kd.C_drew ?_))); (case side2 => exact HC160.out); rintro e w' ⟨rfl, ⟨nd, rfl⟩⟩) | (go_at_call 14; (with_reducible refine (thicketref06_Below.calls k _ _ l0 a1 t176 _ ?side1 ?side2 A16.out).mono ?_); (case side1 => repeat (first | exact (Kd.C_below HR0.out (kB0 HB)) | (with_reducible refine Kd.C_alloc ?_ _) | (with_reducible refine Kd.C_drewN ?_ _) | (with_reducible refine Kd.C_drew ?_))); (case side2 => exact HC0.out); rintro e w' ⟨rfl, ⟨nd, rfl⟩⟩) | (go_at_call 8; (with_reducible refine (thicketlaw06_are.calls k _ _ y157 _ _ l0 true _ ?side1 ?side2 ?side3 ?side4 A18.out).mono ?_); (case side1 => repeat (first | exact (by repeat (first | (with_reducible exact HR160.out) | (with_reducible refine Kd.C_alloc ?_ _) | (with_reducible refine Kd.C_drewN ?_ _) | (with_reducible refine Kd.C_drew ?_) | exact HR160.out)) | (with_reducible refine Kd.C_alloc ?_ _) | (with_reducible refine Kd.C_drewN ?_ _) | (with_reducible refine Kd.C_drew ?_))); (case side2 => exact HC160.out); (case side3 => repeat (first | exact (Kd.C_below HR0.out (kB0 HB)) | (with_reducible refine Kd.C_alloc ?_ _) | (with_reducible refine Kd.C_drewN ?_ _) | (with_reducible refine Kd.C_drew ?_))); (case side4 => exact HC0.out); rintro e w' ⟨rfl, ⟨nd, rfl⟩⟩; have p178 : 0 ≤ ((l0.length : Int) : Int) := of_decide_eq_true ka; have q178 : (l0.length : Int) < (y154.length : Int) := of_decide_eq_true ka; obtain ⟨ad178, e178, hx178_0⟩ := Kd.at_f64 (Kd.R_reads' HO156.out).2.2 (l0.length : Int) p178 q178; cases e178; (try simp only [Go.IntWalk.toNatUp] at hx178_0); replace p178 := eq_true p178; replace q178 := eq_true q178; have p179 : 0 ≤ ((ji22) : Int) := of_decide_eq_true ka; have q179 : (ji22) < (y154.length : Int) := of_decide_eq_true ka; obtain ⟨ad179, e179, hx179_0⟩ := Kd.at_f64 (Kd.R_reads' HO156.out).2.2 (ji22) p179 q179; obtain rfl : ad178 = ad179 := (by injection e179); replace p179 := eq_true p179; replace q179 := eq_true q179))
            go_ret
            exact ⟨by first | rfl | (simp [errW_none, errW_some] <;> rfl) | (simp only [← hji22]; first | rfl | (simp [errW_none, errW_some] <;> rfl)) | (simp [*, errW_none, errW_some] <;> rfl), kB0 HB⟩
           ·rw [if_neg c24] at H
            exact absurd H (by simp)
          ·rw [if_neg c23] at H
           exact absurd H (by simp)
         ·rw [if_neg c21] at H
          have c21b0 : (feq (rdOf (0 : Nat) y154 (l0.length : Int)) 4620130267728707584) = false := by simpa using c21
          clear c21
          obtain rfl := Option.some.inj H
          go_enter Try.func3, Try.ntmps3
          go_wp2_with (first | ((with_reducible refine gate_callee (f := 6) rfl ?_); refine goesL_ (some 10) rfl rfl Try.func6 (by kernel_rfl) rfl #[.slice A0 l0.length c0] rfl (by (try simp only [List.map_toArray, List.map_cons, List.map_nil]); first | done | rfl | (simp only [List.length_drop, List.length_take]; rfl)) ?_; (with_reducible refine (thicketlaw06_list.calls k _ _ l0 t148 _ ?side1 ?side2 A3.out).mono ?_); (case side1 => repeat (first | exact HR0.out | (with_reducible refine Kd.C_alloc ?_ _) | (with_reducible refine Kd.C_drewN ?_ _) | (with_reducible refine Kd.C_drew ?_))); (case side2 => exact HC0.out); rintro e w40 ⟨v149, rfl, ho0, hb⟩; refine ⟨_, rfl, ?_⟩; have n0_ := Aside0.mk (Kd.R_lower ho0 (below_size (kB0 HB))); have n1_ := Aside0.mk (below_step (kB0 HB) hb); clear HB; have HO150 := n0_; have HB := n1_; clear n0_ n1_; (try clear hb); (try clear hb2); (try clear hk); (try clear hi); (try clear ho0)) | ((with_reducible refine gate_dst (N := 11) rfl ?_); (try (refine gate_guard (by rfl) ?_; dsimp only)); refine Kd.R_lit Kd.f64 _ 26 ?hg (N := 11) ?hd (xs := ([4620130267728707584, 4620974692658839552] : List Nat)) (inner := [.float .f64 4620130267728707584, .float .f64 4620974692658839552]) (ok := fun _ => True) (okp := fun _ => True) ?hr ?hp (fun _ hk => hk) trivial (Below.refl _ _) (Nat.le_refl _) (by simp) ?_; (case hd => rfl); (case hg => rfl); (case hr => first | (go_simp; done) | (go_simp; rfl)); (case hp => exact (Reps.one (show Kd.M Kd.f64 _ _ _ 4620130267728707584 [.float .f64 4620130267728707584] from rfl) (Reps.one (show Kd.M Kd.f64 _ _ _ 4620974692658839552 [.float .f64 4620974692658839552] from rfl) (Reps.none _ _)))); intro v152 w41 ho42 hb hg_ hnew_; clear hg_ hnew_; (first | rw [← Ny151.out] at ho42 | (simp only [Int.reduceToNat] at ho42; rw [← Ny151.out] at ho42)); have n0_ := Aside0.mk (Kd.R_elder' (kR HO150) (Kd.R_base ho42) hb); have n1_ := Aside0.mk (Kd.R_lower (Kd.R_new' ho42 (Kd.R_lt (kR HO150))) (below_size (kB0 HB))); have n2_ := Aside0.mk (below_step (kB0 HB) hb); clear HO150; clear HB; have HO150 := n0_; have HO153 := n1_; have HB := n2_; clear n0_ n1_ n2_; clear hb ho42; obtain ⟨Ao44, co44, eo44⟩ := Kd.R_slice HO153.out; subst eo44) | ((with_reducible refine gate_builtin (b := .append) (xs := #[.tmp 10, .tmp 11]) rfl ?_); (try (refine gate_guard (by rfl) ?_; dsimp only)); at_builtin; refine Kd.R_append_rows Kd.f64 (w0 := w) w.heap.size rfl (.tmp 10) (.tmp 11) 24 26 (.float .f64 0) 8 rfl Try.underlying24 info26 rfl (by decide) (by omega) v149 t148 y151 _ _ _ (fun k_ => some k_ ≠ (.slice Ao44 y151.length co44 : Value).ownBlock) (fun _ => False) rfl rfl ?aO ?aR (fun _ _ h => h) (fun _ h => h.elim) ?aF ?aB ?aS ?aL ?_; (case aR => repeat (first | exact (Kd.R_reads' HO153.out).2.2 | (with_reducible refine Kd.C_alloc ?_ _) | (with_reducible refine Kd.C_drewN ?_ _) | (with_reducible refine Kd.C_drew ?_))); (case aB => exact (kB0 HB)); (case aF => exact (fun k_ hk => Kd.fresh' (Kd.R_lt (kR HO153)) k_ hk)); (case aO => exact (by (with_reducible repeat (first | apply Kd.R_alloc | apply Kd.R_drewN | apply Kd.R_drew)); exact Kd.R_mono HO150.out (fun _ hk => hk.2))); (case aS => exact (below_size (kB0 HB))); (case aL => have := LMc4.out; omega); intro v155 w43 ho hb hg hat; rw [← Ny154.out] at ho; have n0_ := Aside0.mk (Kd.R_after (ok := (fun _ => True)) (kR HO153) hg hat); have n1_ := Aside0.mk (hb); have n2_ := Aside0.mk (ho); clear HO153; clear HB; clear HO150; have HO153 := n0_; have HB := n1_; have HO156 := n2_; clear n0_ n1_ n2_; clear ho hb hg hat; obtain ⟨Ao46, co46, eo46⟩ := Kd.R_slice HO156.out; subst eo46; have q45 : ((l0.length : Int) : Int) ≤ ((y154.length : Int) : Int) := of_decide_eq_true ka; obtain ⟨i045, hi045, _, hsz45, _⟩ := info_parts info26; have hroom45 : y154.length ≤ co46 := (Kd.R_reads' HO156.out).2.1; have hC45 : Kd.C Kd.f64 _ Ao46 y154.length y154 := (Kd.R_reads' HO156.out).2.2; have hcut45 := cut_to (P := Try.prog) 24 26 .i64 Try.underlying24 hi045 Ao46 y154.length co46 (l0.length : Int) (of_decide_eq_true ka) q45 hroom45; have hr45 := Kd.C_take (m := ((l0.length : Int) : Int).toNat) hC45 (by omega); have hy45 : y157.length = ((l0.length : Int) : Int).toNat := (by rw [Ny157.out, List.length_take]; omega); rw [← Ny157.out] at hr45; rw [← hy45] at hcut45; have HR160 := Aside0.mk hr45; have HC160 := Aside0.mk (show y157.length ≤ co46 from by omega); clear hr45 hC45 hroom45 hi045 hsz45; have KY45 := Aside0.mk hy45; clear hy45; have KL45 := Aside0.mk (show ((l0.length : Int) : Int).toNat ≤ y154.length from by omega); replace q45 := eq_true q45) | ((with_reducible refine gate_callee (f := 9) rfl ?_); refine goesL_ (some 20) rfl rfl Try.func9 (by kernel_rfl) rfl #[.slice Ao46 y157.length co46] rfl (by (try simp only [List.map_toArray, List.map_cons, List.map_nil]); first | done | rfl | (simp only [List.length_drop, List.length_take]; rfl)) ?_; (with_reducible refine (order_Sorted.calls _ _ y157 t161 _ ?side1 ?side2 A7.out).mono ?_); (case side1 => repeat (first | exact (by repeat (first | (with_reducible exact HR160.out) | (with_reducible refine Kd.C_alloc ?_ _) | (with_reducible refine Kd.C_drewN ?_ _) | (with_reducible refine Kd.C_drew ?_) | exact HR160.out)) | (with_reducible refine Kd.C_alloc ?_ _) | (with_reducible refine Kd.C_drewN ?_ _) | (with_reducible refine Kd.C_drew ?_))); (case side2 => exact HC160.out); rintro e w47 ⟨v162, rfl, ho0, hb⟩; refine ⟨_, rfl, ?_⟩; have n0_ := Aside0.mk (Kd.R_elder' (kR HO153) (Kd.R_base ho0) hb); have n1_ := Aside0.mk (Kd.R_elder' (kR HO156) (Kd.R_base ho0) hb); have n2_ := Aside0.mk (Kd.R_lower (Kd.R_new' (Kd.R_new' ho0 (Kd.R_lt (kR HO153))) (Kd.R_lt (kR HO156))) (below_size (kB0 HB))); have n3_ := Aside0.mk (Kd.C_below (by repeat (first | (with_reducible exact HR160.out) | (with_reducible refine Kd.C_alloc ?_ _) | (with_reducible refine Kd.C_drewN ?_ _) | (with_reducible refine Kd.C_drew ?_) | exact HR160.out)) hb); have n4_ := Aside0.mk (below_step (kB0 HB) hb); clear HO153; clear HO156; clear HR160; clear HB; have HO153 := n0_; have HO156 := n1_; have HO163 := n2_; have HR160 := n3_; have HB := n4_; clear n0_ n1_ n2_ n3_ n4_; (try clear hb); (try clear hb2); (try clear hk); (try clear hi); (try clear ho0)) | ((with_reducible refine gate_callee (f := 10) rfl ?_); refine goesL_ (some 22) rfl rfl Try.func10 (by kernel_rfl) rfl #[.slice A0 l0.length c0] rfl (by (try simp only [List.map_toArray, List.map_cons, List.map_nil]); first | done | rfl | (simp only [List.length_drop, List.length_take]; rfl)) ?_; (with_reducible refine (thicketref06_Sorted.calls k _ _ l0 t164 _ ?side1 ?side2 A8.out).mono ?_); (case side1 => repeat (first | exact (Kd.C_below HR0.out HB.out) | (with_reducible refine Kd.C_alloc ?_ _) | (with_reducible refine Kd.C_drewN ?_ _) | (with_reducible refine Kd.C_drew ?_))); (case side2 => exact HC0.out); rintro e w48 ⟨v165, rfl, ho0, hb⟩; refine ⟨_, rfl, ?_⟩; have n0_ := Aside0.mk (Kd.R_below (kR HO153) hb); have n1_ := Aside0.mk (Kd.R_below (kR HO156) hb); have n2_ := Aside0.mk (Kd.R_below (kR HO163) hb); have n3_ := Aside0.mk (Kd.R_lower ho0 (below_size (kB0 HB))); have n4_ := Aside0.mk (Kd.C_below (by repeat (first | (with_reducible exact HR160.out) | (with_reducible refine Kd.C_alloc ?_ _) | (with_reducible refine Kd.C_drewN ?_ _) | (with_reducible refine Kd.C_drew ?_) | exact HR160.out)) hb); have n5_ := Aside0.mk (below_step (kB0 HB) hb); clear HO153; clear HO156; clear HO163; clear HR160; clear HB; have HO153 := n0_; have HO156 := n1_; have HO163 := n2_; have HO166 := n3_; have HR160 := n4_; have HB := n5_; clear n0_ n1_ n2_ n3_ n4_ n5_; (try clear hb); (try clear hb2); (try clear hk); (try clear hi); (try clear ho0); obtain ⟨Ao49, co49, eo49⟩ := Kd.R_slice HO163.out; subst eo49; obtain ⟨Ao50, co50, eo50⟩ := Kd.R_slice HO166.out; subst eo50) | ((with_reducible refine gate_callee (f := 8) rfl ?_); refine goesL_ (some 23) rfl rfl Try.func8 (by kernel_rfl) rfl #[.slice Ao49 t161.length co49, .slice Ao50 t164.length co50] rfl (by (try simp only [List.map_toArray, List.map_cons, List.map_nil]); first | done | rfl | (simp only [List.length_drop, List.length_take]; rfl)) ?_; (with_reducible refine (thicketlaw06_are.calls k _ _ t161 _ _ t164 true _ ?side1 ?side2 ?side3 ?side4 A9.out).mono ?_); (case side1 => repeat (first | exact (Kd.R_reads' HO163.out).2.2 | (with_reducible refine Kd.C_alloc ?_ _) | (with_reducible refine Kd.C_drewN ?_ _) | (with_reducible refine Kd.C_drew ?_))); (case side2 => exact (Kd.R_reads' HO163.out).2.1); (case side3 => repeat (first | exact (Kd.R_reads' HO166.out).2.2 | (with_reducible refine Kd.C_alloc ?_ _) | (with_reducible refine Kd.C_drewN ?_ _) | (with_reducible refine Kd.C_drew ?_))); (case side4 => exact (Kd.R_reads' HO166.out).2.1); rintro e w' ⟨rfl, ⟨nd, rfl⟩⟩; refine ⟨_, rfl, ?_⟩) | (go_at_call 11; (with_reducible refine (order_Distinct.calls _ _ y157 t168 _ ?side1 ?side2 A11.out).mono ?_); (case side1 => repeat (first | exact (by repeat (first | (with_reducible exact HR160.out) | (with_reducible refine Kd.C_alloc ?_ _) | (with_reducible refine Kd.C_drewN ?_ _) | (with_reducible refine Kd.C_drew ?_) | exact HR160.out)) | (with_reducible refine Kd.C_alloc ?_ _) | (with_reducible refine Kd.C_drewN ?_ _) | (with_reducible refine Kd.C_drew ?_))); (case side2 => exact HC160.out); rintro e w51 ⟨v169, rfl, ho0, hb⟩; have n0_ := Aside0.mk (Kd.R_elder' (kR HO153) (Kd.R_base ho0) hb); have n1_ := Aside0.mk (Kd.R_elder' (kR HO156) (Kd.R_base ho0) hb); have n2_ := Aside0.mk (Kd.R_elder' (kR HO163) (Kd.R_base ho0) hb); have n3_ := Aside0.mk (Kd.R_below (kR HO166) hb); have n4_ := Aside0.mk (Kd.R_lower (Kd.R_new' (Kd.R_new' (Kd.R_new' ho0 (Kd.R_lt (kR HO153))) (Kd.R_lt (kR HO156))) (Kd.R_lt (kR HO163))) (below_size (kB0 HB))); have n5_ := Aside0.mk (Kd.C_below (by repeat (first | (with_reducible exact HR160.out) | (with_reducible refine Kd.C_alloc ?_ _) | (with_reducible refine Kd.C_drewN ?_ _) | (with_reducible refine Kd.C_drew ?_) | exact HR160.out)) hb); have n6_ := Aside0.mk (below_step (kB0 HB) hb); clear HO153; clear HO156; clear HO163; clear HO166; clear HR160; clear HB; have HO153 := n0_; have HO156 := n1_; have HO163 := n2_; have HO166 := n3_; have HO170 := n4_; have HR160 := n5_; have HB := n6_; clear n0_ n1_ n2_ n3_ n4_ n5_ n6_; (try clear hb); (try clear hb2); (try clear hk); (try clear hi); (try clear ho0)) | (go_at_call 12; (with_reducible refine (thicketref06_Distinct.calls k _ _ l0 t171 _ ?side1 ?side2 A12.out).mono ?_); (case side1 => repeat (first | exact (Kd.C_below HR0.out HB.out) | (with_reducible refine Kd.C_alloc ?_ _) | (with_reducible refine Kd.C_drewN ?_ _) | (with_reducible refine Kd.C_drew ?_))); (case side2 => exact HC0.out); rintro e w52 ⟨v172, rfl, ho0, hb⟩; have n0_ := Aside0.mk (Kd.R_below (kR HO153) hb); have n1_ := Aside0.mk (Kd.R_below (kR HO156) hb); have n2_ := Aside0.mk (Kd.R_below (kR HO163) hb); have n3_ := Aside0.mk (Kd.R_elder' (kR HO166) (Kd.R_base ho0) hb); have n4_ := Aside0.mk (Kd.R_below (kR HO170) hb); have n5_ := Aside0.mk (Kd.R_lower (Kd.R_new' ho0 (Kd.R_lt (kR HO166))) (below_size (kB0 HB))); have n6_ := Aside0.mk (Kd.C_below (by repeat (first | (with_reducible exact HR160.out) | (with_reducible refine Kd.C_alloc ?_ _) | (with_reducible refine Kd.C_drewN ?_ _) | (with_reducible refine Kd.C_drew ?_) | exact HR160.out)) hb); have n7_ := Aside0.mk (below_step (kB0 HB) hb); clear HO153; clear HO156; clear HO163; clear HO166; clear HO170; clear HR160; clear HB; have HO153 := n0_; have HO156 := n1_; have HO163 := n2_; have HO166 := n3_; have HO170 := n4_; have HO173 := n5_; have HR160 := n6_; have HB := n7_; clear n0_ n1_ n2_ n3_ n4_ n5_ n6_ n7_; (try clear hb); (try clear hb2); (try clear hk); (try clear hi); (try clear ho0); obtain ⟨Ao53, co53, eo53⟩ := Kd.R_slice HO170.out; subst eo53; obtain ⟨Ao54, co54, eo54⟩ := Kd.R_slice HO173.out; subst eo54) | (go_at_call 8; (with_reducible refine (thicketlaw06_are.calls k _ _ t168 _ _ t171 true _ ?side1 ?side2 ?side3 ?side4 A13.out).mono ?_); (case side1 => repeat (first | exact (Kd.R_reads' HO170.out).2.2 | (with_reducible refine Kd.C_alloc ?_ _) | (with_reducible refine Kd.C_drewN ?_ _) | (with_reducible refine Kd.C_drew ?_))); (case side2 => exact (Kd.R_reads' HO170.out).2.1); (case side3 => repeat (first | exact (Kd.R_reads' HO173.out).2.2 | (with_reducible refine Kd.C_alloc ?_ _) | (with_reducible refine Kd.C_drewN ?_ _) | (with_reducible refine Kd.C_drew ?_))); (case side4 => exact (Kd.R_reads' HO173.out).2.1); rintro e w' ⟨rfl, ⟨nd, rfl⟩⟩) | (go_at_call 13; (with_reducible refine (order_Below.calls k _ _ y157 (f64from a1) t175 _ ?side1 ?side2 A15.out).mono ?_); (case side1 => repeat (first | exact (by repeat (first | (with_reducible exact HR160.out) | (with_reducible refine Kd.C_alloc ?_ _) | (with_reducible refine Kd.C_drewN ?_ _) | (with_reducible refine Kd.C_drew ?_) | exact HR160.out)) | (with_reducible refine Kd.C_alloc ?_ _) | (with_reducible refine Kd.C_drewN ?_ _) | (with_reducible refine Kd.C_drew ?_))); (case side2 => exact HC160.out); rintro e w' ⟨rfl, ⟨nd, rfl⟩⟩) | (go_at_call 14; (with_reducible refine (thicketref06_Below.calls k _ _ l0 a1 t176 _ ?side1 ?side2 A16.out).mono ?_); (case side1 => repeat (first | exact (Kd.C_below HR0.out (kB0 HB)) | (with_reducible refine Kd.C_alloc ?_ _) | (with_reducible refine Kd.C_drewN ?_ _) | (with_reducible refine Kd.C_drew ?_))); (case side2 => exact HC0.out); rintro e w' ⟨rfl, ⟨nd, rfl⟩⟩) | (go_at_call 8; (with_reducible refine (thicketlaw06_are.calls k _ _ y157 _ _ l0 true _ ?side1 ?side2 ?side3 ?side4 A18.out).mono ?_); (case side1 => repeat (first | exact (by repeat (first | (with_reducible exact HR160.out) | (with_reducible refine Kd.C_alloc ?_ _) | (with_reducible refine Kd.C_drewN ?_ _) | (with_reducible refine Kd.C_drew ?_) | exact HR160.out)) | (with_reducible refine Kd.C_alloc ?_ _) | (with_reducible refine Kd.C_drewN ?_ _) | (with_reducible refine Kd.C_drew ?_))); (case side2 => exact HC160.out); (case side3 => repeat (first | exact (Kd.C_below HR0.out (kB0 HB)) | (with_reducible refine Kd.C_alloc ?_ _) | (with_reducible refine Kd.C_drewN ?_ _) | (with_reducible refine Kd.C_drew ?_))); (case side4 => exact HC0.out); rintro e w' ⟨rfl, ⟨nd, rfl⟩⟩; have p178 : 0 ≤ ((l0.length : Int) : Int) := of_decide_eq_true ka; have q178 : (l0.length : Int) < (y154.length : Int) := of_decide_eq_true ka; obtain ⟨ad178, e178, hx178_0⟩ := Kd.at_f64 (Kd.R_reads' HO156.out).2.2 (l0.length : Int) p178 q178; cases e178; (try simp only [Go.IntWalk.toNatUp] at hx178_0); replace p178 := eq_true p178; replace q178 := eq_true q178))
          go_ret
          exact ⟨by first | rfl | (simp [errW_none, errW_some] <;> rfl) | (simp [*, errW_none, errW_some] <;> rfl), kB0 HB⟩
        ·rw [if_neg c20] at H
         exact absurd H (by simp)
       ·replace c19 := Bool.eq_false_iff.mpr c19
        subst c19
        have H1 : (some false) = some r := by rw [if_neg (show ¬ (false = true) by decide)] at H; exact H
        clear H
        have H := H1
        clear H1
        obtain rfl := Option.some.inj H
        go_enter Try.func3, Try.ntmps3
        go_wp2_with (first | ((with_reducible refine gate_callee (f := 6) rfl ?_); refine goesL_ (some 10) rfl rfl Try.func6 (by kernel_rfl) rfl #[.slice A0 l0.length c0] rfl (by (try simp only [List.map_toArray, List.map_cons, List.map_nil]); first | done | rfl | (simp only [List.length_drop, List.length_take]; rfl)) ?_; (with_reducible refine (thicketlaw06_list.calls k _ _ l0 t148 _ ?side1 ?side2 A3.out).mono ?_); (case side1 => repeat (first | exact HR0.out | (with_reducible refine Kd.C_alloc ?_ _) | (with_reducible refine Kd.C_drewN ?_ _) | (with_reducible refine Kd.C_drew ?_))); (case side2 => exact HC0.out); rintro e w55 ⟨v149, rfl, ho0, hb⟩; refine ⟨_, rfl, ?_⟩; have n0_ := Aside0.mk (Kd.R_lower ho0 (below_size (kB0 HB))); have n1_ := Aside0.mk (below_step (kB0 HB) hb); clear HB; have HO150 := n0_; have HB := n1_; clear n0_ n1_; (try clear hb); (try clear hb2); (try clear hk); (try clear hi); (try clear ho0)) | ((with_reducible refine gate_dst (N := 11) rfl ?_); (try (refine gate_guard (by rfl) ?_; dsimp only)); refine Kd.R_lit Kd.f64 _ 26 ?hg (N := 11) ?hd (xs := ([4620130267728707584, 4620974692658839552] : List Nat)) (inner := [.float .f64 4620130267728707584, .float .f64 4620974692658839552]) (ok := fun _ => True) (okp := fun _ => True) ?hr ?hp (fun _ hk => hk) trivial (Below.refl _ _) (Nat.le_refl _) (by simp) ?_; (case hd => rfl); (case hg => rfl); (case hr => first | (go_simp; done) | (go_simp; rfl)); (case hp => exact (Reps.one (show Kd.M Kd.f64 _ _ _ 4620130267728707584 [.float .f64 4620130267728707584] from rfl) (Reps.one (show Kd.M Kd.f64 _ _ _ 4620974692658839552 [.float .f64 4620974692658839552] from rfl) (Reps.none _ _)))); intro v152 w56 ho57 hb hg_ hnew_; clear hg_ hnew_; (first | rw [← Ny151.out] at ho57 | (simp only [Int.reduceToNat] at ho57; rw [← Ny151.out] at ho57)); have n0_ := Aside0.mk (Kd.R_elder' (kR HO150) (Kd.R_base ho57) hb); have n1_ := Aside0.mk (Kd.R_lower (Kd.R_new' ho57 (Kd.R_lt (kR HO150))) (below_size (kB0 HB))); have n2_ := Aside0.mk (below_step (kB0 HB) hb); clear HO150; clear HB; have HO150 := n0_; have HO153 := n1_; have HB := n2_; clear n0_ n1_ n2_; clear hb ho57; obtain ⟨Ao59, co59, eo59⟩ := Kd.R_slice HO153.out; subst eo59) | ((with_reducible refine gate_builtin (b := .append) (xs := #[.tmp 10, .tmp 11]) rfl ?_); (try (refine gate_guard (by rfl) ?_; dsimp only)); at_builtin; refine Kd.R_append_rows Kd.f64 (w0 := w) w.heap.size rfl (.tmp 10) (.tmp 11) 24 26 (.float .f64 0) 8 rfl Try.underlying24 info26 rfl (by decide) (by omega) v149 t148 y151 _ _ _ (fun k_ => some k_ ≠ (.slice Ao59 y151.length co59 : Value).ownBlock) (fun _ => False) rfl rfl ?aO ?aR (fun _ _ h => h) (fun _ h => h.elim) ?aF ?aB ?aS ?aL ?_; (case aR => repeat (first | exact (Kd.R_reads' HO153.out).2.2 | (with_reducible refine Kd.C_alloc ?_ _) | (with_reducible refine Kd.C_drewN ?_ _) | (with_reducible refine Kd.C_drew ?_))); (case aB => exact (kB0 HB)); (case aF => exact (fun k_ hk => Kd.fresh' (Kd.R_lt (kR HO153)) k_ hk)); (case aO => exact (by (with_reducible repeat (first | apply Kd.R_alloc | apply Kd.R_drewN | apply Kd.R_drew)); exact Kd.R_mono HO150.out (fun _ hk => hk.2))); (case aS => exact (below_size (kB0 HB))); (case aL => have := LMc4.out; omega); intro v155 w58 ho hb hg hat; rw [← Ny154.out] at ho; have n0_ := Aside0.mk (Kd.R_after (ok := (fun _ => True)) (kR HO153) hg hat); have n1_ := Aside0.mk (hb); have n2_ := Aside0.mk (ho); clear HO153; clear HB; clear HO150; have HO153 := n0_; have HB := n1_; have HO156 := n2_; clear n0_ n1_ n2_; clear ho hb hg hat; obtain ⟨Ao61, co61, eo61⟩ := Kd.R_slice HO156.out; subst eo61; have q60 : ((l0.length : Int) : Int) ≤ ((y154.length : Int) : Int) := of_decide_eq_true ka; obtain ⟨i060, hi060, _, hsz60, _⟩ := info_parts info26; have hroom60 : y154.length ≤ co61 := (Kd.R_reads' HO156.out).2.1; have hC60 : Kd.C Kd.f64 _ Ao61 y154.length y154 := (Kd.R_reads' HO156.out).2.2; have hcut60 := cut_to (P := Try.prog) 24 26 .i64 Try.underlying24 hi060 Ao61 y154.length co61 (l0.length : Int) (of_decide_eq_true ka) q60 hroom60; have hr60 := Kd.C_take (m := ((l0.length : Int) : Int).toNat) hC60 (by omega); have hy60 : y157.length = ((l0.length : Int) : Int).toNat := (by rw [Ny157.out, List.length_take]; omega); rw [← Ny157.out] at hr60; rw [← hy60] at hcut60; have HR160 := Aside0.mk hr60; have HC160 := Aside0.mk (show y157.length ≤ co61 from by omega); clear hr60 hC60 hroom60 hi060 hsz60; have KY60 := Aside0.mk hy60; clear hy60; have KL60 := Aside0.mk (show ((l0.length : Int) : Int).toNat ≤ y154.length from by omega); replace q60 := eq_true q60) | ((with_reducible refine gate_callee (f := 9) rfl ?_); refine goesL_ (some 20) rfl rfl Try.func9 (by kernel_rfl) rfl #[.slice Ao61 y157.length co61] rfl (by (try simp only [List.map_toArray, List.map_cons, List.map_nil]); first | done | rfl | (simp only [List.length_drop, List.length_take]; rfl)) ?_; (with_reducible refine (order_Sorted.calls _ _ y157 t161 _ ?side1 ?side2 A7.out).mono ?_); (case side1 => repeat (first | exact (by repeat (first | (with_reducible exact HR160.out) | (with_reducible refine Kd.C_alloc ?_ _) | (with_reducible refine Kd.C_drewN ?_ _) | (with_reducible refine Kd.C_drew ?_) | exact HR160.out)) | (with_reducible refine Kd.C_alloc ?_ _) | (with_reducible refine Kd.C_drewN ?_ _) | (with_reducible refine Kd.C_drew ?_))); (case side2 => exact HC160.out); rintro e w62 ⟨v162, rfl, ho0, hb⟩; refine ⟨_, rfl, ?_⟩; have n0_ := Aside0.mk (Kd.R_elder' (kR HO153) (Kd.R_base ho0) hb); have n1_ := Aside0.mk (Kd.R_elder' (kR HO156) (Kd.R_base ho0) hb); have n2_ := Aside0.mk (Kd.R_lower (Kd.R_new' (Kd.R_new' ho0 (Kd.R_lt (kR HO153))) (Kd.R_lt (kR HO156))) (below_size (kB0 HB))); have n3_ := Aside0.mk (Kd.C_below (by repeat (first | (with_reducible exact HR160.out) | (with_reducible refine Kd.C_alloc ?_ _) | (with_reducible refine Kd.C_drewN ?_ _) | (with_reducible refine Kd.C_drew ?_) | exact HR160.out)) hb); have n4_ := Aside0.mk (below_step (kB0 HB) hb); clear HO153; clear HO156; clear HR160; clear HB; have HO153 := n0_; have HO156 := n1_; have HO163 := n2_; have HR160 := n3_; have HB := n4_; clear n0_ n1_ n2_ n3_ n4_; (try clear hb); (try clear hb2); (try clear hk); (try clear hi); (try clear ho0)) | ((with_reducible refine gate_callee (f := 10) rfl ?_); refine goesL_ (some 22) rfl rfl Try.func10 (by kernel_rfl) rfl #[.slice A0 l0.length c0] rfl (by (try simp only [List.map_toArray, List.map_cons, List.map_nil]); first | done | rfl | (simp only [List.length_drop, List.length_take]; rfl)) ?_; (with_reducible refine (thicketref06_Sorted.calls k _ _ l0 t164 _ ?side1 ?side2 A8.out).mono ?_); (case side1 => repeat (first | exact (Kd.C_below HR0.out HB.out) | (with_reducible refine Kd.C_alloc ?_ _) | (with_reducible refine Kd.C_drewN ?_ _) | (with_reducible refine Kd.C_drew ?_))); (case side2 => exact HC0.out); rintro e w63 ⟨v165, rfl, ho0, hb⟩; refine ⟨_, rfl, ?_⟩; have n0_ := Aside0.mk (Kd.R_below (kR HO153) hb); have n1_ := Aside0.mk (Kd.R_below (kR HO156) hb); have n2_ := Aside0.mk (Kd.R_below (kR HO163) hb); have n3_ := Aside0.mk (Kd.R_lower ho0 (below_size (kB0 HB))); have n4_ := Aside0.mk (Kd.C_below (by repeat (first | (with_reducible exact HR160.out) | (with_reducible refine Kd.C_alloc ?_ _) | (with_reducible refine Kd.C_drewN ?_ _) | (with_reducible refine Kd.C_drew ?_) | exact HR160.out)) hb); have n5_ := Aside0.mk (below_step (kB0 HB) hb); clear HO153; clear HO156; clear HO163; clear HR160; clear HB; have HO153 := n0_; have HO156 := n1_; have HO163 := n2_; have HO166 := n3_; have HR160 := n4_; have HB := n5_; clear n0_ n1_ n2_ n3_ n4_ n5_; (try clear hb); (try clear hb2); (try clear hk); (try clear hi); (try clear ho0); obtain ⟨Ao64, co64, eo64⟩ := Kd.R_slice HO163.out; subst eo64; obtain ⟨Ao65, co65, eo65⟩ := Kd.R_slice HO166.out; subst eo65) | ((with_reducible refine gate_callee (f := 8) rfl ?_); refine goesL_ (some 23) rfl rfl Try.func8 (by kernel_rfl) rfl #[.slice Ao64 t161.length co64, .slice Ao65 t164.length co65] rfl (by (try simp only [List.map_toArray, List.map_cons, List.map_nil]); first | done | rfl | (simp only [List.length_drop, List.length_take]; rfl)) ?_; (with_reducible refine (thicketlaw06_are.calls k _ _ t161 _ _ t164 true _ ?side1 ?side2 ?side3 ?side4 A9.out).mono ?_); (case side1 => repeat (first | exact (Kd.R_reads' HO163.out).2.2 | (with_reducible refine Kd.C_alloc ?_ _) | (with_reducible refine Kd.C_drewN ?_ _) | (with_reducible refine Kd.C_drew ?_))); (case side2 => exact (Kd.R_reads' HO163.out).2.1); (case side3 => repeat (first | exact (Kd.R_reads' HO166.out).2.2 | (with_reducible refine Kd.C_alloc ?_ _) | (with_reducible refine Kd.C_drewN ?_ _) | (with_reducible refine Kd.C_drew ?_))); (case side4 => exact (Kd.R_reads' HO166.out).2.1); rintro e w' ⟨rfl, ⟨nd, rfl⟩⟩; refine ⟨_, rfl, ?_⟩) | (go_at_call 11; (with_reducible refine (order_Distinct.calls _ _ y157 t168 _ ?side1 ?side2 A11.out).mono ?_); (case side1 => repeat (first | exact (by repeat (first | (with_reducible exact HR160.out) | (with_reducible refine Kd.C_alloc ?_ _) | (with_reducible refine Kd.C_drewN ?_ _) | (with_reducible refine Kd.C_drew ?_) | exact HR160.out)) | (with_reducible refine Kd.C_alloc ?_ _) | (with_reducible refine Kd.C_drewN ?_ _) | (with_reducible refine Kd.C_drew ?_))); (case side2 => exact HC160.out); rintro e w66 ⟨v169, rfl, ho0, hb⟩; have n0_ := Aside0.mk (Kd.R_elder' (kR HO153) (Kd.R_base ho0) hb); have n1_ := Aside0.mk (Kd.R_elder' (kR HO156) (Kd.R_base ho0) hb); have n2_ := Aside0.mk (Kd.R_elder' (kR HO163) (Kd.R_base ho0) hb); have n3_ := Aside0.mk (Kd.R_below (kR HO166) hb); have n4_ := Aside0.mk (Kd.R_lower (Kd.R_new' (Kd.R_new' (Kd.R_new' ho0 (Kd.R_lt (kR HO153))) (Kd.R_lt (kR HO156))) (Kd.R_lt (kR HO163))) (below_size (kB0 HB))); have n5_ := Aside0.mk (Kd.C_below (by repeat (first | (with_reducible exact HR160.out) | (with_reducible refine Kd.C_alloc ?_ _) | (with_reducible refine Kd.C_drewN ?_ _) | (with_reducible refine Kd.C_drew ?_) | exact HR160.out)) hb); have n6_ := Aside0.mk (below_step (kB0 HB) hb); clear HO153; clear HO156; clear HO163; clear HO166; clear HR160; clear HB; have HO153 := n0_; have HO156 := n1_; have HO163 := n2_; have HO166 := n3_; have HO170 := n4_; have HR160 := n5_; have HB := n6_; clear n0_ n1_ n2_ n3_ n4_ n5_ n6_; (try clear hb); (try clear hb2); (try clear hk); (try clear hi); (try clear ho0)) | (go_at_call 12; (with_reducible refine (thicketref06_Distinct.calls k _ _ l0 t171 _ ?side1 ?side2 A12.out).mono ?_); (case side1 => repeat (first | exact (Kd.C_below HR0.out HB.out) | (with_reducible refine Kd.C_alloc ?_ _) | (with_reducible refine Kd.C_drewN ?_ _) | (with_reducible refine Kd.C_drew ?_))); (case side2 => exact HC0.out); rintro e w67 ⟨v172, rfl, ho0, hb⟩; have n0_ := Aside0.mk (Kd.R_below (kR HO153) hb); have n1_ := Aside0.mk (Kd.R_below (kR HO156) hb); have n2_ := Aside0.mk (Kd.R_below (kR HO163) hb); have n3_ := Aside0.mk (Kd.R_elder' (kR HO166) (Kd.R_base ho0) hb); have n4_ := Aside0.mk (Kd.R_below (kR HO170) hb); have n5_ := Aside0.mk (Kd.R_lower (Kd.R_new' ho0 (Kd.R_lt (kR HO166))) (below_size (kB0 HB))); have n6_ := Aside0.mk (Kd.C_below (by repeat (first | (with_reducible exact HR160.out) | (with_reducible refine Kd.C_alloc ?_ _) | (with_reducible refine Kd.C_drewN ?_ _) | (with_reducible refine Kd.C_drew ?_) | exact HR160.out)) hb); have n7_ := Aside0.mk (below_step (kB0 HB) hb); clear HO153; clear HO156; clear HO163; clear HO166; clear HO170; clear HR160; clear HB; have HO153 := n0_; have HO156 := n1_; have HO163 := n2_; have HO166 := n3_; have HO170 := n4_; have HO173 := n5_; have HR160 := n6_; have HB := n7_; clear n0_ n1_ n2_ n3_ n4_ n5_ n6_ n7_; (try clear hb); (try clear hb2); (try clear hk); (try clear hi); (try clear ho0); obtain ⟨Ao68, co68, eo68⟩ := Kd.R_slice HO170.out; subst eo68; obtain ⟨Ao69, co69, eo69⟩ := Kd.R_slice HO173.out; subst eo69) | (go_at_call 8; (with_reducible refine (thicketlaw06_are.calls k _ _ t168 _ _ t171 true _ ?side1 ?side2 ?side3 ?side4 A13.out).mono ?_); (case side1 => repeat (first | exact (Kd.R_reads' HO170.out).2.2 | (with_reducible refine Kd.C_alloc ?_ _) | (with_reducible refine Kd.C_drewN ?_ _) | (with_reducible refine Kd.C_drew ?_))); (case side2 => exact (Kd.R_reads' HO170.out).2.1); (case side3 => repeat (first | exact (Kd.R_reads' HO173.out).2.2 | (with_reducible refine Kd.C_alloc ?_ _) | (with_reducible refine Kd.C_drewN ?_ _) | (with_reducible refine Kd.C_drew ?_))); (case side4 => exact (Kd.R_reads' HO173.out).2.1); rintro e w' ⟨rfl, ⟨nd, rfl⟩⟩) | (go_at_call 13; (with_reducible refine (order_Below.calls k _ _ y157 (f64from a1) t175 _ ?side1 ?side2 A15.out).mono ?_); (case side1 => repeat (first | exact (by repeat (first | (with_reducible exact HR160.out) | (with_reducible refine Kd.C_alloc ?_ _) | (with_reducible refine Kd.C_drewN ?_ _) | (with_reducible refine Kd.C_drew ?_) | exact HR160.out)) | (with_reducible refine Kd.C_alloc ?_ _) | (with_reducible refine Kd.C_drewN ?_ _) | (with_reducible refine Kd.C_drew ?_))); (case side2 => exact HC160.out); rintro e w' ⟨rfl, ⟨nd, rfl⟩⟩) | (go_at_call 14; (with_reducible refine (thicketref06_Below.calls k _ _ l0 a1 t176 _ ?side1 ?side2 A16.out).mono ?_); (case side1 => repeat (first | exact (Kd.C_below HR0.out (kB0 HB)) | (with_reducible refine Kd.C_alloc ?_ _) | (with_reducible refine Kd.C_drewN ?_ _) | (with_reducible refine Kd.C_drew ?_))); (case side2 => exact HC0.out); rintro e w' ⟨rfl, ⟨nd, rfl⟩⟩) | (go_at_call 8; (with_reducible refine (thicketlaw06_are.calls k _ _ y157 _ _ l0 false _ ?side1 ?side2 ?side3 ?side4 A18.out).mono ?_); (case side1 => repeat (first | exact (by repeat (first | (with_reducible exact HR160.out) | (with_reducible refine Kd.C_alloc ?_ _) | (with_reducible refine Kd.C_drewN ?_ _) | (with_reducible refine Kd.C_drew ?_) | exact HR160.out)) | (with_reducible refine Kd.C_alloc ?_ _) | (with_reducible refine Kd.C_drewN ?_ _) | (with_reducible refine Kd.C_drew ?_))); (case side2 => exact HC160.out); (case side3 => repeat (first | exact (Kd.C_below HR0.out (kB0 HB)) | (with_reducible refine Kd.C_alloc ?_ _) | (with_reducible refine Kd.C_drewN ?_ _) | (with_reducible refine Kd.C_drew ?_))); (case side4 => exact HC0.out); rintro e w' ⟨rfl, ⟨nd, rfl⟩⟩))
        go_ret
        exact ⟨by first | rfl | (simp [errW_none, errW_some] <;> rfl) | (simp [*, errW_none, errW_some] <;> rfl), kB0 HB⟩
      ·rw [if_neg c17] at H
       have c17b0 : (t175 == t176) = false := beq_eq_false_iff_ne.mpr c17
       have c17b1 : (t175 != t176) = true := bne_iff_ne.mpr c17
       obtain rfl := Option.some.inj H
       go_enter Try.func3, Try.ntmps3
       go_wp2_with (first | ((with_reducible refine gate_callee (f := 6) rfl ?_); refine goesL_ (some 10) rfl rfl Try.func6 (by kernel_rfl) rfl #[.slice A0 l0.length c0] rfl (by (try simp only [List.map_toArray, List.map_cons, List.map_nil]); first | done | rfl | (simp only [List.length_drop, List.length_take]; rfl)) ?_; (with_reducible refine (thicketlaw06_list.calls k _ _ l0 t148 _ ?side1 ?side2 A3.out).mono ?_); (case side1 => repeat (first | exact HR0.out | (with_reducible refine Kd.C_alloc ?_ _) | (with_reducible refine Kd.C_drewN ?_ _) | (with_reducible refine Kd.C_drew ?_))); (case side2 => exact HC0.out); rintro e w70 ⟨v149, rfl, ho0, hb⟩; refine ⟨_, rfl, ?_⟩; have n0_ := Aside0.mk (Kd.R_lower ho0 (below_size (kB0 HB))); have n1_ := Aside0.mk (below_step (kB0 HB) hb); clear HB; have HO150 := n0_; have HB := n1_; clear n0_ n1_; (try clear hb); (try clear hb2); (try clear hk); (try clear hi); (try clear ho0)) | ((with_reducible refine gate_dst (N := 11) rfl ?_); (try (refine gate_guard (by rfl) ?_; dsimp only)); refine Kd.R_lit Kd.f64 _ 26 ?hg (N := 11) ?hd (xs := ([4620130267728707584, 4620974692658839552] : List Nat)) (inner := [.float .f64 4620130267728707584, .float .f64 4620974692658839552]) (ok := fun _ => True) (okp := fun _ => True) ?hr ?hp (fun _ hk => hk) trivial (Below.refl _ _) (Nat.le_refl _) (by simp) ?_; (case hd => rfl); (case hg => rfl); (case hr => first | (go_simp; done) | (go_simp; rfl)); (case hp => exact (Reps.one (show Kd.M Kd.f64 _ _ _ 4620130267728707584 [.float .f64 4620130267728707584] from rfl) (Reps.one (show Kd.M Kd.f64 _ _ _ 4620974692658839552 [.float .f64 4620974692658839552] from rfl) (Reps.none _ _)))); intro v152 w71 ho72 hb hg_ hnew_; clear hg_ hnew_; (first | rw [← Ny151.out] at ho72 | (simp only [Int.reduceToNat] at ho72; rw [← Ny151.out] at ho72)); have n0_ := Aside0.mk (Kd.R_elder' (kR HO150) (Kd.R_base ho72) hb); have n1_ := Aside0.mk (Kd.R_lower (Kd.R_new' ho72 (Kd.R_lt (kR HO150))) (below_size (kB0 HB))); have n2_ := Aside0.mk (below_step (kB0 HB) hb); clear HO150; clear HB; have HO150 := n0_; have HO153 := n1_; have HB := n2_; clear n0_ n1_ n2_; clear hb ho72; obtain ⟨Ao74, co74, eo74⟩ := Kd.R_slice HO153.out; subst eo74) | ((with_reducible refine gate_builtin (b := .append) (xs := #[.tmp 10, .tmp 11]) rfl ?_); (try (refine gate_guard (by rfl) ?_; dsimp only)); at_builtin; refine Kd.R_append_rows Kd.f64 (w0 := w) w.heap.size rfl (.tmp 10) (.tmp 11) 24 26 (.float .f64 0) 8 rfl Try.underlying24 info26 rfl (by decide) (by omega) v149 t148 y151 _ _ _ (fun k_ => some k_ ≠ (.slice Ao74 y151.length co74 : Value).ownBlock) (fun _ => False) rfl rfl ?aO ?aR (fun _ _ h => h) (fun _ h => h.elim) ?aF ?aB ?aS ?aL ?_; (case aR => repeat (first | exact (Kd.R_reads' HO153.out).2.2 | (with_reducible refine Kd.C_alloc ?_ _) | (with_reducible refine Kd.C_drewN ?_ _) | (with_reducible refine Kd.C_drew ?_))); (case aB => exact (kB0 HB)); (case aF => exact (fun k_ hk => Kd.fresh' (Kd.R_lt (kR HO153)) k_ hk)); (case aO => exact (by (with_reducible repeat (first | apply Kd.R_alloc | apply Kd.R_drewN | apply Kd.R_drew)); exact Kd.R_mono HO150.out (fun _ hk => hk.2))); (case aS => exact (below_size (kB0 HB))); (case aL => have := LMc4.out; omega); intro v155 w73 ho hb hg hat; rw [← Ny154.out] at ho; have n0_ := Aside0.mk (Kd.R_after (ok := (fun _ => True)) (kR HO153) hg hat); have n1_ := Aside0.mk (hb); have n2_ := Aside0.mk (ho); clear HO153; clear HB; clear HO150; have HO153 := n0_; have HB := n1_; have HO156 := n2_; clear n0_ n1_ n2_; clear ho hb hg hat; obtain ⟨Ao76, co76, eo76⟩ := Kd.R_slice HO156.out; subst eo76; have q75 : ((l0.length : Int) : Int) ≤ ((y154.length : Int) : Int) := of_decide_eq_true ka; obtain ⟨i075, hi075, _, hsz75, _⟩ := info_parts info26; have hroom75 : y154.length ≤ co76 := (Kd.R_reads' HO156.out).2.1; have hC75 : Kd.C Kd.f64 _ Ao76 y154.length y154 := (Kd.R_reads' HO156.out).2.2; have hcut75 := cut_to (P := Try.prog) 24 26 .i64 Try.underlying24 hi075 Ao76 y154.length co76 (l0.length : Int) (of_decide_eq_true ka) q75 hroom75; have hr75 := Kd.C_take (m := ((l0.length : Int) : Int).toNat) hC75 (by omega); have hy75 : y157.length = ((l0.length : Int) : Int).toNat := (by rw [Ny157.out, List.length_take]; omega); rw [← Ny157.out] at hr75; rw [← hy75] at hcut75; have HR160 := Aside0.mk hr75; have HC160 := Aside0.mk (show y157.length ≤ co76 from by omega); clear hr75 hC75 hroom75 hi075 hsz75; have KY75 := Aside0.mk hy75; clear hy75; have KL75 := Aside0.mk (show ((l0.length : Int) : Int).toNat ≤ y154.length from by omega); replace q75 := eq_true q75) | ((with_reducible refine gate_callee (f := 9) rfl ?_); refine goesL_ (some 20) rfl rfl Try.func9 (by kernel_rfl) rfl #[.slice Ao76 y157.length co76] rfl (by (try simp only [List.map_toArray, List.map_cons, List.map_nil]); first | done | rfl | (simp only [List.length_drop, List.length_take]; rfl)) ?_; (with_reducible refine (order_Sorted.calls _ _ y157 t161 _ ?side1 ?side2 A7.out).mono ?_); (case side1 => repeat (first | exact (by repeat (first | (with_reducible exact HR160.out) | (with_reducible refine Kd.C_alloc ?_ _) | (with_reducible refine Kd.C_drewN ?_ _) | (with_reducible refine Kd.C_drew ?_) | exact HR160.out)) | (with_reducible refine Kd.C_alloc ?_ _) | (with_reducible refine Kd.C_drewN ?_ _) | (with_reducible refine Kd.C_drew ?_))); (case side2 => exact HC160.out); rintro e w77 ⟨v162, rfl, ho0, hb⟩; refine ⟨_, rfl, ?_⟩; have n0_ := Aside0.mk (Kd.R_elder' (kR HO153) (Kd.R_base ho0) hb); have n1_ := Aside0.mk (Kd.R_elder' (kR HO156) (Kd.R_base ho0) hb); have n2_ := Aside0.mk (Kd.R_lower (Kd.R_new' (Kd.R_new' ho0 (Kd.R_lt (kR HO153))) (Kd.R_lt (kR HO156))) (below_size (kB0 HB))); have n3_ := Aside0.mk (Kd.C_below (by repeat (first | (with_reducible exact HR160.out) | (with_reducible refine Kd.C_alloc ?_ _) | (with_reducible refine Kd.C_drewN ?_ _) | (with_reducible refine Kd.C_drew ?_) | exact HR160.out)) hb); have n4_ := Aside0.mk (below_step (kB0 HB) hb); clear HO153; clear HO156; clear HR160; clear HB; have HO153 := n0_; have HO156 := n1_; have HO163 := n2_; have HR160 := n3_; have HB := n4_; clear n0_ n1_ n2_ n3_ n4_; (try clear hb); (try clear hb2); (try clear hk); (try clear hi); (try clear ho0)) | ((with_reducible refine gate_callee (f := 10) rfl ?_); refine goesL_ (some 22) rfl rfl Try.func10 (by kernel_rfl) rfl #[.slice A0 l0.length c0] rfl (by (try simp only [List.map_toArray, List.map_cons, List.map_nil]); first | done | rfl | (simp only [List.length_drop, List.length_take]; rfl)) ?_; (with_reducible refine (thicketref06_Sorted.calls k _ _ l0 t164 _ ?side1 ?side2 A8.out).mono ?_); (case side1 => repeat (first | exact (Kd.C_below HR0.out HB.out) | (with_reducible refine Kd.C_alloc ?_ _) | (with_reducible refine Kd.C_drewN ?_ _) | (with_reducible refine Kd.C_drew ?_))); (case side2 => exact HC0.out); rintro e w78 ⟨v165, rfl, ho0, hb⟩; refine ⟨_, rfl, ?_⟩; have n0_ := Aside0.mk (Kd.R_below (kR HO153) hb); have n1_ := Aside0.mk (Kd.R_below (kR HO156) hb); have n2_ := Aside0.mk (Kd.R_below (kR HO163) hb); have n3_ := Aside0.mk (Kd.R_lower ho0 (below_size (kB0 HB))); have n4_ := Aside0.mk (Kd.C_below (by repeat (first | (with_reducible exact HR160.out) | (with_reducible refine Kd.C_alloc ?_ _) | (with_reducible refine Kd.C_drewN ?_ _) | (with_reducible refine Kd.C_drew ?_) | exact HR160.out)) hb); have n5_ := Aside0.mk (below_step (kB0 HB) hb); clear HO153; clear HO156; clear HO163; clear HR160; clear HB; have HO153 := n0_; have HO156 := n1_; have HO163 := n2_; have HO166 := n3_; have HR160 := n4_; have HB := n5_; clear n0_ n1_ n2_ n3_ n4_ n5_; (try clear hb); (try clear hb2); (try clear hk); (try clear hi); (try clear ho0); obtain ⟨Ao79, co79, eo79⟩ := Kd.R_slice HO163.out; subst eo79; obtain ⟨Ao80, co80, eo80⟩ := Kd.R_slice HO166.out; subst eo80) | ((with_reducible refine gate_callee (f := 8) rfl ?_); refine goesL_ (some 23) rfl rfl Try.func8 (by kernel_rfl) rfl #[.slice Ao79 t161.length co79, .slice Ao80 t164.length co80] rfl (by (try simp only [List.map_toArray, List.map_cons, List.map_nil]); first | done | rfl | (simp only [List.length_drop, List.length_take]; rfl)) ?_; (with_reducible refine (thicketlaw06_are.calls k _ _ t161 _ _ t164 true _ ?side1 ?side2 ?side3 ?side4 A9.out).mono ?_); (case side1 => repeat (first | exact (Kd.R_reads' HO163.out).2.2 | (with_reducible refine Kd.C_alloc ?_ _) | (with_reducible refine Kd.C_drewN ?_ _) | (with_reducible refine Kd.C_drew ?_))); (case side2 => exact (Kd.R_reads' HO163.out).2.1); (case side3 => repeat (first | exact (Kd.R_reads' HO166.out).2.2 | (with_reducible refine Kd.C_alloc ?_ _) | (with_reducible refine Kd.C_drewN ?_ _) | (with_reducible refine Kd.C_drew ?_))); (case side4 => exact (Kd.R_reads' HO166.out).2.1); rintro e w' ⟨rfl, ⟨nd, rfl⟩⟩; refine ⟨_, rfl, ?_⟩) | (go_at_call 11; (with_reducible refine (order_Distinct.calls _ _ y157 t168 _ ?side1 ?side2 A11.out).mono ?_); (case side1 => repeat (first | exact (by repeat (first | (with_reducible exact HR160.out) | (with_reducible refine Kd.C_alloc ?_ _) | (with_reducible refine Kd.C_drewN ?_ _) | (with_reducible refine Kd.C_drew ?_) | exact HR160.out)) | (with_reducible refine Kd.C_alloc ?_ _) | (with_reducible refine Kd.C_drewN ?_ _) | (with_reducible refine Kd.C_drew ?_))); (case side2 => exact HC160.out); rintro e w81 ⟨v169, rfl, ho0, hb⟩; have n0_ := Aside0.mk (Kd.R_elder' (kR HO153) (Kd.R_base ho0) hb); have n1_ := Aside0.mk (Kd.R_elder' (kR HO156) (Kd.R_base ho0) hb); have n2_ := Aside0.mk (Kd.R_elder' (kR HO163) (Kd.R_base ho0) hb); have n3_ := Aside0.mk (Kd.R_below (kR HO166) hb); have n4_ := Aside0.mk (Kd.R_lower (Kd.R_new' (Kd.R_new' (Kd.R_new' ho0 (Kd.R_lt (kR HO153))) (Kd.R_lt (kR HO156))) (Kd.R_lt (kR HO163))) (below_size (kB0 HB))); have n5_ := Aside0.mk (Kd.C_below (by repeat (first | (with_reducible exact HR160.out) | (with_reducible refine Kd.C_alloc ?_ _) | (with_reducible refine Kd.C_drewN ?_ _) | (with_reducible refine Kd.C_drew ?_) | exact HR160.out)) hb); have n6_ := Aside0.mk (below_step (kB0 HB) hb); clear HO153; clear HO156; clear HO163; clear HO166; clear HR160; clear HB; have HO153 := n0_; have HO156 := n1_; have HO163 := n2_; have HO166 := n3_; have HO170 := n4_; have HR160 := n5_; have HB := n6_; clear n0_ n1_ n2_ n3_ n4_ n5_ n6_; (try clear hb); (try clear hb2); (try clear hk); (try clear hi); (try clear ho0)) | (go_at_call 12; (with_reducible refine (thicketref06_Distinct.calls k _ _ l0 t171 _ ?side1 ?side2 A12.out).mono ?_); (case side1 => repeat (first | exact (Kd.C_below HR0.out HB.out) | (with_reducible refine Kd.C_alloc ?_ _) | (with_reducible refine Kd.C_drewN ?_ _) | (with_reducible refine Kd.C_drew ?_))); (case side2 => exact HC0.out); rintro e w82 ⟨v172, rfl, ho0, hb⟩; have n0_ := Aside0.mk (Kd.R_below (kR HO153) hb); have n1_ := Aside0.mk (Kd.R_below (kR HO156) hb); have n2_ := Aside0.mk (Kd.R_below (kR HO163) hb); have n3_ := Aside0.mk (Kd.R_elder' (kR HO166) (Kd.R_base ho0) hb); have n4_ := Aside0.mk (Kd.R_below (kR HO170) hb); have n5_ := Aside0.mk (Kd.R_lower (Kd.R_new' ho0 (Kd.R_lt (kR HO166))) (below_size (kB0 HB))); have n6_ := Aside0.mk (Kd.C_below (by repeat (first | (with_reducible exact HR160.out) | (with_reducible refine Kd.C_alloc ?_ _) | (with_reducible refine Kd.C_drewN ?_ _) | (with_reducible refine Kd.C_drew ?_) | exact HR160.out)) hb); have n7_ := Aside0.mk (below_step (kB0 HB) hb); clear HO153; clear HO156; clear HO163; clear HO166; clear HO170; clear HR160; clear HB; have HO153 := n0_; have HO156 := n1_; have HO163 := n2_; have HO166 := n3_; have HO170 := n4_; have HO173 := n5_; have HR160 := n6_; have HB := n7_; clear n0_ n1_ n2_ n3_ n4_ n5_ n6_ n7_; (try clear hb); (try clear hb2); (try clear hk); (try clear hi); (try clear ho0); obtain ⟨Ao83, co83, eo83⟩ := Kd.R_slice HO170.out; subst eo83; obtain ⟨Ao84, co84, eo84⟩ := Kd.R_slice HO173.out; subst eo84) | (go_at_call 8; (with_reducible refine (thicketlaw06_are.calls k _ _ t168 _ _ t171 true _ ?side1 ?side2 ?side3 ?side4 A13.out).mono ?_); (case side1 => repeat (first | exact (Kd.R_reads' HO170.out).2.2 | (with_reducible refine Kd.C_alloc ?_ _) | (with_reducible refine Kd.C_drewN ?_ _) | (with_reducible refine Kd.C_drew ?_))); (case side2 => exact (Kd.R_reads' HO170.out).2.1); (case side3 => repeat (first | exact (Kd.R_reads' HO173.out).2.2 | (with_reducible refine Kd.C_alloc ?_ _) | (with_reducible refine Kd.C_drewN ?_ _) | (with_reducible refine Kd.C_drew ?_))); (case side4 => exact (Kd.R_reads' HO173.out).2.1); rintro e w' ⟨rfl, ⟨nd, rfl⟩⟩) | (go_at_call 13; (with_reducible refine (order_Below.calls k _ _ y157 (f64from a1) t175 _ ?side1 ?side2 A15.out).mono ?_); (case side1 => repeat (first | exact (by repeat (first | (with_reducible exact HR160.out) | (with_reducible refine Kd.C_alloc ?_ _) | (with_reducible refine Kd.C_drewN ?_ _) | (with_reducible refine Kd.C_drew ?_) | exact HR160.out)) | (with_reducible refine Kd.C_alloc ?_ _) | (with_reducible refine Kd.C_drewN ?_ _) | (with_reducible refine Kd.C_drew ?_))); (case side2 => exact HC160.out); rintro e w' ⟨rfl, ⟨nd, rfl⟩⟩) | (go_at_call 14; (with_reducible refine (thicketref06_Below.calls k _ _ l0 a1 t176 _ ?side1 ?side2 A16.out).mono ?_); (case side1 => repeat (first | exact (Kd.C_below HR0.out (kB0 HB)) | (with_reducible refine Kd.C_alloc ?_ _) | (with_reducible refine Kd.C_drewN ?_ _) | (with_reducible refine Kd.C_drew ?_))); (case side2 => exact HC0.out); rintro e w' ⟨rfl, ⟨nd, rfl⟩⟩))
       go_ret
       exact ⟨by first | rfl | (simp [errW_none, errW_some] <;> rfl) | (simp [*, errW_none, errW_some] <;> rfl), kB0 HB⟩
     ·replace c14 := Bool.eq_false_iff.mpr c14
      subst c14
      have H1 : (some false) = some r := by rw [if_neg (show ¬ (false = true) by decide)] at H; exact H
      clear H
      have H := H1
      clear H1
      obtain rfl := Option.some.inj H
      go_enter Try.func3, Try.ntmps3
      go_wp2_with (first | ((with_reducible refine gate_callee (f := 6) rfl ?_); refine goesL_ (some 10) rfl rfl Try.func6 (by kernel_rfl) rfl #[.slice A0 l0.length c0] rfl (by (try simp only [List.map_toArray, List.map_cons, List.map_nil]); first | done | rfl | (simp only [List.length_drop, List.length_take]; rfl)) ?_; (with_reducible refine (thicketlaw06_list.calls k _ _ l0 t148 _ ?side1 ?side2 A3.out).mono ?_); (case side1 => repeat (first | exact HR0.out | (with_reducible refine Kd.C_alloc ?_ _) | (with_reducible refine Kd.C_drewN ?_ _) | (with_reducible refine Kd.C_drew ?_))); (case side2 => exact HC0.out); rintro e w85 ⟨v149, rfl, ho0, hb⟩; refine ⟨_, rfl, ?_⟩; have n0_ := Aside0.mk (Kd.R_lower ho0 (below_size (kB0 HB))); have n1_ := Aside0.mk (below_step (kB0 HB) hb); clear HB; have HO150 := n0_; have HB := n1_; clear n0_ n1_; (try clear hb); (try clear hb2); (try clear hk); (try clear hi); (try clear ho0)) | ((with_reducible refine gate_dst (N := 11) rfl ?_); (try (refine gate_guard (by rfl) ?_; dsimp only)); refine Kd.R_lit Kd.f64 _ 26 ?hg (N := 11) ?hd (xs := ([4620130267728707584, 4620974692658839552] : List Nat)) (inner := [.float .f64 4620130267728707584, .float .f64 4620974692658839552]) (ok := fun _ => True) (okp := fun _ => True) ?hr ?hp (fun _ hk => hk) trivial (Below.refl _ _) (Nat.le_refl _) (by simp) ?_; (case hd => rfl); (case hg => rfl); (case hr => first | (go_simp; done) | (go_simp; rfl)); (case hp => exact (Reps.one (show Kd.M Kd.f64 _ _ _ 4620130267728707584 [.float .f64 4620130267728707584] from rfl) (Reps.one (show Kd.M Kd.f64 _ _ _ 4620974692658839552 [.float .f64 4620974692658839552] from rfl) (Reps.none _ _)))); intro v152 w86 ho87 hb hg_ hnew_; clear hg_ hnew_; (first | rw [← Ny151.out] at ho87 | (simp only [Int.reduceToNat] at ho87; rw [← Ny151.out] at ho87)); have n0_ := Aside0.mk (Kd.R_elder' (kR HO150) (Kd.R_base ho87) hb); have n1_ := Aside0.mk (Kd.R_lower (Kd.R_new' ho87 (Kd.R_lt (kR HO150))) (below_size (kB0 HB))); have n2_ := Aside0.mk (below_step (kB0 HB) hb); clear HO150; clear HB; have HO150 := n0_; have HO153 := n1_; have HB := n2_; clear n0_ n1_ n2_; clear hb ho87; obtain ⟨Ao89, co89, eo89⟩ := Kd.R_slice HO153.out; subst eo89) | ((with_reducible refine gate_builtin (b := .append) (xs := #[.tmp 10, .tmp 11]) rfl ?_); (try (refine gate_guard (by rfl) ?_; dsimp only)); at_builtin; refine Kd.R_append_rows Kd.f64 (w0 := w) w.heap.size rfl (.tmp 10) (.tmp 11) 24 26 (.float .f64 0) 8 rfl Try.underlying24 info26 rfl (by decide) (by omega) v149 t148 y151 _ _ _ (fun k_ => some k_ ≠ (.slice Ao89 y151.length co89 : Value).ownBlock) (fun _ => False) rfl rfl ?aO ?aR (fun _ _ h => h) (fun _ h => h.elim) ?aF ?aB ?aS ?aL ?_; (case aR => repeat (first | exact (Kd.R_reads' HO153.out).2.2 | (with_reducible refine Kd.C_alloc ?_ _) | (with_reducible refine Kd.C_drewN ?_ _) | (with_reducible refine Kd.C_drew ?_))); (case aB => exact (kB0 HB)); (case aF => exact (fun k_ hk => Kd.fresh' (Kd.R_lt (kR HO153)) k_ hk)); (case aO => exact (by (with_reducible repeat (first | apply Kd.R_alloc | apply Kd.R_drewN | apply Kd.R_drew)); exact Kd.R_mono HO150.out (fun _ hk => hk.2))); (case aS => exact (below_size (kB0 HB))); (case aL => have := LMc4.out; omega); intro v155 w88 ho hb hg hat; rw [← Ny154.out] at ho; have n0_ := Aside0.mk (Kd.R_after (ok := (fun _ => True)) (kR HO153) hg hat); have n1_ := Aside0.mk (hb); have n2_ := Aside0.mk (ho); clear HO153; clear HB; clear HO150; have HO153 := n0_; have HB := n1_; have HO156 := n2_; clear n0_ n1_ n2_; clear ho hb hg hat; obtain ⟨Ao91, co91, eo91⟩ := Kd.R_slice HO156.out; subst eo91; have q90 : ((l0.length : Int) : Int) ≤ ((y154.length : Int) : Int) := of_decide_eq_true ka; obtain ⟨i090, hi090, _, hsz90, _⟩ := info_parts info26; have hroom90 : y154.length ≤ co91 := (Kd.R_reads' HO156.out).2.1; have hC90 : Kd.C Kd.f64 _ Ao91 y154.length y154 := (Kd.R_reads' HO156.out).2.2; have hcut90 := cut_to (P := Try.prog) 24 26 .i64 Try.underlying24 hi090 Ao91 y154.length co91 (l0.length : Int) (of_decide_eq_true ka) q90 hroom90; have hr90 := Kd.C_take (m := ((l0.length : Int) : Int).toNat) hC90 (by omega); have hy90 : y157.length = ((l0.length : Int) : Int).toNat := (by rw [Ny157.out, List.length_take]; omega); rw [← Ny157.out] at hr90; rw [← hy90] at hcut90; have HR160 := Aside0.mk hr90; have HC160 := Aside0.mk (show y157.length ≤ co91 from by omega); clear hr90 hC90 hroom90 hi090 hsz90; have KY90 := Aside0.mk hy90; clear hy90; have KL90 := Aside0.mk (show ((l0.length : Int) : Int).toNat ≤ y154.length from by omega); replace q90 := eq_true q90) | ((with_reducible refine gate_callee (f := 9) rfl ?_); refine goesL_ (some 20) rfl rfl Try.func9 (by kernel_rfl) rfl #[.slice Ao91 y157.length co91] rfl (by (try simp only [List.map_toArray, List.map_cons, List.map_nil]); first | done | rfl | (simp only [List.length_drop, List.length_take]; rfl)) ?_; (with_reducible refine (order_Sorted.calls _ _ y157 t161 _ ?side1 ?side2 A7.out).mono ?_); (case side1 => repeat (first | exact (by repeat (first | (with_reducible exact HR160.out) | (with_reducible refine Kd.C_alloc ?_ _) | (with_reducible refine Kd.C_drewN ?_ _) | (with_reducible refine Kd.C_drew ?_) | exact HR160.out)) | (with_reducible refine Kd.C_alloc ?_ _) | (with_reducible refine Kd.C_drewN ?_ _) | (with_reducible refine Kd.C_drew ?_))); (case side2 => exact HC160.out); rintro e w92 ⟨v162, rfl, ho0, hb⟩; refine ⟨_, rfl, ?_⟩; have n0_ := Aside0.mk (Kd.R_elder' (kR HO153) (Kd.R_base ho0) hb); have n1_ := Aside0.mk (Kd.R_elder' (kR HO156) (Kd.R_base ho0) hb); have n2_ := Aside0.mk (Kd.R_lower (Kd.R_new' (Kd.R_new' ho0 (Kd.R_lt (kR HO153))) (Kd.R_lt (kR HO156))) (below_size (kB0 HB))); have n3_ := Aside0.mk (Kd.C_below (by repeat (first | (with_reducible exact HR160.out) | (with_reducible refine Kd.C_alloc ?_ _) | (with_reducible refine Kd.C_drewN ?_ _) | (with_reducible refine Kd.C_drew ?_) | exact HR160.out)) hb); have n4_ := Aside0.mk (below_step (kB0 HB) hb); clear HO153; clear HO156; clear HR160; clear HB; have HO153 := n0_; have HO156 := n1_; have HO163 := n2_; have HR160 := n3_; have HB := n4_; clear n0_ n1_ n2_ n3_ n4_; (try clear hb); (try clear hb2); (try clear hk); (try clear hi); (try clear ho0)) | ((with_reducible refine gate_callee (f := 10) rfl ?_); refine goesL_ (some 22) rfl rfl Try.func10 (by kernel_rfl) rfl #[.slice A0 l0.length c0] rfl (by (try simp only [List.map_toArray, List.map_cons, List.map_nil]); first | done | rfl | (simp only [List.length_drop, List.length_take]; rfl)) ?_; (with_reducible refine (thicketref06_Sorted.calls k _ _ l0 t164 _ ?side1 ?side2 A8.out).mono ?_); (case side1 => repeat (first | exact (Kd.C_below HR0.out HB.out) | (with_reducible refine Kd.C_alloc ?_ _) | (with_reducible refine Kd.C_drewN ?_ _) | (with_reducible refine Kd.C_drew ?_))); (case side2 => exact HC0.out); rintro e w93 ⟨v165, rfl, ho0, hb⟩; refine ⟨_, rfl, ?_⟩; have n0_ := Aside0.mk (Kd.R_below (kR HO153) hb); have n1_ := Aside0.mk (Kd.R_below (kR HO156) hb); have n2_ := Aside0.mk (Kd.R_below (kR HO163) hb); have n3_ := Aside0.mk (Kd.R_lower ho0 (below_size (kB0 HB))); have n4_ := Aside0.mk (Kd.C_below (by repeat (first | (with_reducible exact HR160.out) | (with_reducible refine Kd.C_alloc ?_ _) | (with_reducible refine Kd.C_drewN ?_ _) | (with_reducible refine Kd.C_drew ?_) | exact HR160.out)) hb); have n5_ := Aside0.mk (below_step (kB0 HB) hb); clear HO153; clear HO156; clear HO163; clear HR160; clear HB; have HO153 := n0_; have HO156 := n1_; have HO163 := n2_; have HO166 := n3_; have HR160 := n4_; have HB := n5_; clear n0_ n1_ n2_ n3_ n4_ n5_; (try clear hb); (try clear hb2); (try clear hk); (try clear hi); (try clear ho0); obtain ⟨Ao94, co94, eo94⟩ := Kd.R_slice HO163.out; subst eo94; obtain ⟨Ao95, co95, eo95⟩ := Kd.R_slice HO166.out; subst eo95) | ((with_reducible refine gate_callee (f := 8) rfl ?_); refine goesL_ (some 23) rfl rfl Try.func8 (by kernel_rfl) rfl #[.slice Ao94 t161.length co94, .slice Ao95 t164.length co95] rfl (by (try simp only [List.map_toArray, List.map_cons, List.map_nil]); first | done | rfl | (simp only [List.length_drop, List.length_take]; rfl)) ?_; (with_reducible refine (thicketlaw06_are.calls k _ _ t161 _ _ t164 true _ ?side1 ?side2 ?side3 ?side4 A9.out).mono ?_); (case side1 => repeat (first | exact (Kd.R_reads' HO163.out).2.2 | (with_reducible refine Kd.C_alloc ?_ _) | (with_reducible refine Kd.C_drewN ?_ _) | (with_reducible refine Kd.C_drew ?_))); (case side2 => exact (Kd.R_reads' HO163.out).2.1); (case side3 => repeat (first | exact (Kd.R_reads' HO166.out).2.2 | (with_reducible refine Kd.C_alloc ?_ _) | (with_reducible refine Kd.C_drewN ?_ _) | (with_reducible refine Kd.C_drew ?_))); (case side4 => exact (Kd.R_reads' HO166.out).2.1); rintro e w' ⟨rfl, ⟨nd, rfl⟩⟩; refine ⟨_, rfl, ?_⟩) | (go_at_call 11; (with_reducible refine (order_Distinct.calls _ _ y157 t168 _ ?side1 ?side2 A11.out).mono ?_); (case side1 => repeat (first | exact (by repeat (first | (with_reducible exact HR160.out) | (with_reducible refine Kd.C_alloc ?_ _) | (with_reducible refine Kd.C_drewN ?_ _) | (with_reducible refine Kd.C_drew ?_) | exact HR160.out)) | (with_reducible refine Kd.C_alloc ?_ _) | (with_reducible refine Kd.C_drewN ?_ _) | (with_reducible refine Kd.C_drew ?_))); (case side2 => exact HC160.out); rintro e w96 ⟨v169, rfl, ho0, hb⟩; have n0_ := Aside0.mk (Kd.R_elder' (kR HO153) (Kd.R_base ho0) hb); have n1_ := Aside0.mk (Kd.R_elder' (kR HO156) (Kd.R_base ho0) hb); have n2_ := Aside0.mk (Kd.R_elder' (kR HO163) (Kd.R_base ho0) hb); have n3_ := Aside0.mk (Kd.R_below (kR HO166) hb); have n4_ := Aside0.mk (Kd.R_lower (Kd.R_new' (Kd.R_new' (Kd.R_new' ho0 (Kd.R_lt (kR HO153))) (Kd.R_lt (kR HO156))) (Kd.R_lt (kR HO163))) (below_size (kB0 HB))); have n5_ := Aside0.mk (Kd.C_below (by repeat (first | (with_reducible exact HR160.out) | (with_reducible refine Kd.C_alloc ?_ _) | (with_reducible refine Kd.C_drewN ?_ _) | (with_reducible refine Kd.C_drew ?_) | exact HR160.out)) hb); have n6_ := Aside0.mk (below_step (kB0 HB) hb); clear HO153; clear HO156; clear HO163; clear HO166; clear HR160; clear HB; have HO153 := n0_; have HO156 := n1_; have HO163 := n2_; have HO166 := n3_; have HO170 := n4_; have HR160 := n5_; have HB := n6_; clear n0_ n1_ n2_ n3_ n4_ n5_ n6_; (try clear hb); (try clear hb2); (try clear hk); (try clear hi); (try clear ho0)) | (go_at_call 12; (with_reducible refine (thicketref06_Distinct.calls k _ _ l0 t171 _ ?side1 ?side2 A12.out).mono ?_); (case side1 => repeat (first | exact (Kd.C_below HR0.out HB.out) | (with_reducible refine Kd.C_alloc ?_ _) | (with_reducible refine Kd.C_drewN ?_ _) | (with_reducible refine Kd.C_drew ?_))); (case side2 => exact HC0.out); rintro e w97 ⟨v172, rfl, ho0, hb⟩; have n0_ := Aside0.mk (Kd.R_below (kR HO153) hb); have n1_ := Aside0.mk (Kd.R_below (kR HO156) hb); have n2_ := Aside0.mk (Kd.R_below (kR HO163) hb); have n3_ := Aside0.mk (Kd.R_elder' (kR HO166) (Kd.R_base ho0) hb); have n4_ := Aside0.mk (Kd.R_below (kR HO170) hb); have n5_ := Aside0.mk (Kd.R_lower (Kd.R_new' ho0 (Kd.R_lt (kR HO166))) (below_size (kB0 HB))); have n6_ := Aside0.mk (Kd.C_below (by repeat (first | (with_reducible exact HR160.out) | (with_reducible refine Kd.C_alloc ?_ _) | (with_reducible refine Kd.C_drewN ?_ _) | (with_reducible refine Kd.C_drew ?_) | exact HR160.out)) hb); have n7_ := Aside0.mk (below_step (kB0 HB) hb); clear HO153; clear HO156; clear HO163; clear HO166; clear HO170; clear HR160; clear HB; have HO153 := n0_; have HO156 := n1_; have HO163 := n2_; have HO166 := n3_; have HO170 := n4_; have HO173 := n5_; have HR160 := n6_; have HB := n7_; clear n0_ n1_ n2_ n3_ n4_ n5_ n6_ n7_; (try clear hb); (try clear hb2); (try clear hk); (try clear hi); (try clear ho0); obtain ⟨Ao98, co98, eo98⟩ := Kd.R_slice HO170.out; subst eo98; obtain ⟨Ao99, co99, eo99⟩ := Kd.R_slice HO173.out; subst eo99) | (go_at_call 8; (with_reducible refine (thicketlaw06_are.calls k _ _ t168 _ _ t171 false _ ?side1 ?side2 ?side3 ?side4 A13.out).mono ?_); (case side1 => repeat (first | exact (Kd.R_reads' HO170.out).2.2 | (with_reducible refine Kd.C_alloc ?_ _) | (with_reducible refine Kd.C_drewN ?_ _) | (with_reducible refine Kd.C_drew ?_))); (case side2 => exact (Kd.R_reads' HO170.out).2.1); (case side3 => repeat (first | exact (Kd.R_reads' HO173.out).2.2 | (with_reducible refine Kd.C_alloc ?_ _) | (with_reducible refine Kd.C_drewN ?_ _) | (with_reducible refine Kd.C_drew ?_))); (case side4 => exact (Kd.R_reads' HO173.out).2.1); rintro e w' ⟨rfl, ⟨nd, rfl⟩⟩))
      go_ret
      exact ⟨by first | rfl | (simp [errW_none, errW_some] <;> rfl) | (simp [*, errW_none, errW_some] <;> rfl), kB0 HB⟩
    ·replace c10 := Bool.eq_false_iff.mpr c10
     subst c10
     have H1 : (some false) = some r := by rw [if_neg (show ¬ (false = true) by decide)] at H; exact H
     clear H
     have H := H1
     clear H1
     obtain rfl := Option.some.inj H
     go_enter Try.func3, Try.ntmps3
     go_wp2_with (first | ((with_reducible refine gate_callee (f := 6) rfl ?_); refine goesL_ (some 10) rfl rfl Try.func6 (by kernel_rfl) rfl #[.slice A0 l0.length c0] rfl (by (try simp only [List.map_toArray, List.map_cons, List.map_nil]); first | done | rfl | (simp only [List.length_drop, List.length_take]; rfl)) ?_; (with_reducible refine (thicketlaw06_list.calls k _ _ l0 t148 _ ?side1 ?side2 A3.out).mono ?_); (case side1 => repeat (first | exact HR0.out | (with_reducible refine Kd.C_alloc ?_ _) | (with_reducible refine Kd.C_drewN ?_ _) | (with_reducible refine Kd.C_drew ?_))); (case side2 => exact HC0.out); rintro e w100 ⟨v149, rfl, ho0, hb⟩; refine ⟨_, rfl, ?_⟩; have n0_ := Aside0.mk (Kd.R_lower ho0 (below_size (kB0 HB))); have n1_ := Aside0.mk (below_step (kB0 HB) hb); clear HB; have HO150 := n0_; have HB := n1_; clear n0_ n1_; (try clear hb); (try clear hb2); (try clear hk); (try clear hi); (try clear ho0)) | ((with_reducible refine gate_dst (N := 11) rfl ?_); (try (refine gate_guard (by rfl) ?_; dsimp only)); refine Kd.R_lit Kd.f64 _ 26 ?hg (N := 11) ?hd (xs := ([4620130267728707584, 4620974692658839552] : List Nat)) (inner := [.float .f64 4620130267728707584, .float .f64 4620974692658839552]) (ok := fun _ => True) (okp := fun _ => True) ?hr ?hp (fun _ hk => hk) trivial (Below.refl _ _) (Nat.le_refl _) (by simp) ?_; (case hd => rfl); (case hg => rfl); (case hr => first | (go_simp; done) | (go_simp; rfl)); (case hp => exact (Reps.one (show Kd.M Kd.f64 _ _ _ 4620130267728707584 [.float .f64 4620130267728707584] from rfl) (Reps.one (show Kd.M Kd.f64 _ _ _ 4620974692658839552 [.float .f64 4620974692658839552] from rfl) (Reps.none _ _)))); intro v152 w101 ho102 hb hg_ hnew_; clear hg_ hnew_; (first | rw [← Ny151.out] at ho102 | (simp only [Int.reduceToNat] at ho102; rw [← Ny151.out] at ho102)); have n0_ := Aside0.mk (Kd.R_elder' (kR HO150) (Kd.R_base ho102) hb); have n1_ := Aside0.mk (Kd.R_lower (Kd.R_new' ho102 (Kd.R_lt (kR HO150))) (below_size (kB0 HB))); have n2_ := Aside0.mk (below_step (kB0 HB) hb); clear HO150; clear HB; have HO150 := n0_; have HO153 := n1_; have HB := n2_; clear n0_ n1_ n2_; clear hb ho102; obtain ⟨Ao104, co104, eo104⟩ := Kd.R_slice HO153.out; subst eo104) | ((with_reducible refine gate_builtin (b := .append) (xs := #[.tmp 10, .tmp 11]) rfl ?_); (try (refine gate_guard (by rfl) ?_; dsimp only)); at_builtin; refine Kd.R_append_rows Kd.f64 (w0 := w) w.heap.size rfl (.tmp 10) (.tmp 11) 24 26 (.float .f64 0) 8 rfl Try.underlying24 info26 rfl (by decide) (by omega) v149 t148 y151 _ _ _ (fun k_ => some k_ ≠ (.slice Ao104 y151.length co104 : Value).ownBlock) (fun _ => False) rfl rfl ?aO ?aR (fun _ _ h => h) (fun _ h => h.elim) ?aF ?aB ?aS ?aL ?_; (case aR => repeat (first | exact (Kd.R_reads' HO153.out).2.2 | (with_reducible refine Kd.C_alloc ?_ _) | (with_reducible refine Kd.C_drewN ?_ _) | (with_reducible refine Kd.C_drew ?_))); (case aB => exact (kB0 HB)); (case aF => exact (fun k_ hk => Kd.fresh' (Kd.R_lt (kR HO153)) k_ hk)); (case aO => exact (by (with_reducible repeat (first | apply Kd.R_alloc | apply Kd.R_drewN | apply Kd.R_drew)); exact Kd.R_mono HO150.out (fun _ hk => hk.2))); (case aS => exact (below_size (kB0 HB))); (case aL => have := LMc4.out; omega); intro v155 w103 ho hb hg hat; rw [← Ny154.out] at ho; have n0_ := Aside0.mk (Kd.R_after (ok := (fun _ => True)) (kR HO153) hg hat); have n1_ := Aside0.mk (hb); have n2_ := Aside0.mk (ho); clear HO153; clear HB; clear HO150; have HO153 := n0_; have HB := n1_; have HO156 := n2_; clear n0_ n1_ n2_; clear ho hb hg hat; obtain ⟨Ao106, co106, eo106⟩ := Kd.R_slice HO156.out; subst eo106; have q105 : ((l0.length : Int) : Int) ≤ ((y154.length : Int) : Int) := of_decide_eq_true ka; obtain ⟨i0105, hi0105, _, hsz105, _⟩ := info_parts info26; have hroom105 : y154.length ≤ co106 := (Kd.R_reads' HO156.out).2.1; have hC105 : Kd.C Kd.f64 _ Ao106 y154.length y154 := (Kd.R_reads' HO156.out).2.2; have hcut105 := cut_to (P := Try.prog) 24 26 .i64 Try.underlying24 hi0105 Ao106 y154.length co106 (l0.length : Int) (of_decide_eq_true ka) q105 hroom105; have hr105 := Kd.C_take (m := ((l0.length : Int) : Int).toNat) hC105 (by omega); have hy105 : y157.length = ((l0.length : Int) : Int).toNat := (by rw [Ny157.out, List.length_take]; omega); rw [← Ny157.out] at hr105; rw [← hy105] at hcut105; have HR160 := Aside0.mk hr105; have HC160 := Aside0.mk (show y157.length ≤ co106 from by omega); clear hr105 hC105 hroom105 hi0105 hsz105; have KY105 := Aside0.mk hy105; clear hy105; have KL105 := Aside0.mk (show ((l0.length : Int) : Int).toNat ≤ y154.length from by omega); replace q105 := eq_true q105) | ((with_reducible refine gate_callee (f := 9) rfl ?_); refine goesL_ (some 20) rfl rfl Try.func9 (by kernel_rfl) rfl #[.slice Ao106 y157.length co106] rfl (by (try simp only [List.map_toArray, List.map_cons, List.map_nil]); first | done | rfl | (simp only [List.length_drop, List.length_take]; rfl)) ?_; (with_reducible refine (order_Sorted.calls _ _ y157 t161 _ ?side1 ?side2 A7.out).mono ?_); (case side1 => repeat (first | exact (by repeat (first | (with_reducible exact HR160.out) | (with_reducible refine Kd.C_alloc ?_ _) | (with_reducible refine Kd.C_drewN ?_ _) | (with_reducible refine Kd.C_drew ?_) | exact HR160.out)) | (with_reducible refine Kd.C_alloc ?_ _) | (with_reducible refine Kd.C_drewN ?_ _) | (with_reducible refine Kd.C_drew ?_))); (case side2 => exact HC160.out); rintro e w107 ⟨v162, rfl, ho0, hb⟩; refine ⟨_, rfl, ?_⟩; have n0_ := Aside0.mk (Kd.R_elder' (kR HO153) (Kd.R_base ho0) hb); have n1_ := Aside0.mk (Kd.R_elder' (kR HO156) (Kd.R_base ho0) hb); have n2_ := Aside0.mk (Kd.R_lower (Kd.R_new' (Kd.R_new' ho0 (Kd.R_lt (kR HO153))) (Kd.R_lt (kR HO156))) (below_size (kB0 HB))); have n3_ := Aside0.mk (Kd.C_below (by repeat (first | (with_reducible exact HR160.out) | (with_reducible refine Kd.C_alloc ?_ _) | (with_reducible refine Kd.C_drewN ?_ _) | (with_reducible refine Kd.C_drew ?_) | exact HR160.out)) hb); have n4_ := Aside0.mk (below_step (kB0 HB) hb); clear HO153; clear HO156; clear HR160; clear HB; have HO153 := n0_; have HO156 := n1_; have HO163 := n2_; have HR160 := n3_; have HB := n4_; clear n0_ n1_ n2_ n3_ n4_; (try clear hb); (try clear hb2); (try clear hk); (try clear hi); (try clear ho0)) | ((with_reducible refine gate_callee (f := 10) rfl ?_); refine goesL_ (some 22) rfl rfl Try.func10 (by kernel_rfl) rfl #[.slice A0 l0.length c0] rfl (by (try simp only [List.map_toArray, List.map_cons, List.map_nil]); first | done | rfl | (simp only [List.length_drop, List.length_take]; rfl)) ?_; (with_reducible refine (thicketref06_Sorted.calls k _ _ l0 t164 _ ?side1 ?side2 A8.out).mono ?_); (case side1 => repeat (first | exact (Kd.C_below HR0.out HB.out) | (with_reducible refine Kd.C_alloc ?_ _) | (with_reducible refine Kd.C_drewN ?_ _) | (with_reducible refine Kd.C_drew ?_))); (case side2 => exact HC0.out); rintro e w108 ⟨v165, rfl, ho0, hb⟩; refine ⟨_, rfl, ?_⟩; have n0_ := Aside0.mk (Kd.R_below (kR HO153) hb); have n1_ := Aside0.mk (Kd.R_below (kR HO156) hb); have n2_ := Aside0.mk (Kd.R_below (kR HO163) hb); have n3_ := Aside0.mk (Kd.R_lower ho0 (below_size (kB0 HB))); have n4_ := Aside0.mk (Kd.C_below (by repeat (first | (with_reducible exact HR160.out) | (with_reducible refine Kd.C_alloc ?_ _) | (with_reducible refine Kd.C_drewN ?_ _) | (with_reducible refine Kd.C_drew ?_) | exact HR160.out)) hb); have n5_ := Aside0.mk (below_step (kB0 HB) hb); clear HO153; clear HO156; clear HO163; clear HR160; clear HB; have HO153 := n0_; have HO156 := n1_; have HO163 := n2_; have HO166 := n3_; have HR160 := n4_; have HB := n5_; clear n0_ n1_ n2_ n3_ n4_ n5_; (try clear hb); (try clear hb2); (try clear hk); (try clear hi); (try clear ho0); obtain ⟨Ao109, co109, eo109⟩ := Kd.R_slice HO163.out; subst eo109; obtain ⟨Ao110, co110, eo110⟩ := Kd.R_slice HO166.out; subst eo110) | ((with_reducible refine gate_callee (f := 8) rfl ?_); refine goesL_ (some 23) rfl rfl Try.func8 (by kernel_rfl) rfl #[.slice Ao109 t161.length co109, .slice Ao110 t164.length co110] rfl (by (try simp only [List.map_toArray, List.map_cons, List.map_nil]); first | done | rfl | (simp only [List.length_drop, List.length_take]; rfl)) ?_; (with_reducible refine (thicketlaw06_are.calls k _ _ t161 _ _ t164 false _ ?side1 ?side2 ?side3 ?side4 A9.out).mono ?_); (case side1 => repeat (first | exact (Kd.R_reads' HO163.out).2.2 | (with_reducible refine Kd.C_alloc ?_ _) | (with_reducible refine Kd.C_drewN ?_ _) | (with_reducible refine Kd.C_drew ?_))); (case side2 => exact (Kd.R_reads' HO163.out).2.1); (case side3 => repeat (first | exact (Kd.R_reads' HO166.out).2.2 | (with_reducible refine Kd.C_alloc ?_ _) | (with_reducible refine Kd.C_drewN ?_ _) | (with_reducible refine Kd.C_drew ?_))); (case side4 => exact (Kd.R_reads' HO166.out).2.1); rintro e w' ⟨rfl, ⟨nd, rfl⟩⟩; refine ⟨_, rfl, ?_⟩))
     go_ret
     exact ⟨by first | rfl | (simp [errW_none, errW_some] <;> rfl) | (simp [*, errW_none, errW_some] <;> rfl), kB0 HB⟩
   ·rw [if_neg c6] at H
    exact absurd H (by simp)
  ·rw [if_neg c5] at H
   exact absurd H (by simp)
 ·rw [if_neg c4] at H
  exact absurd H (by simp)
/-- THE ONE PURE STATEMENT of thicketlaw06_OrderLists: yours. -/
def thicketlaw06_OrderLists.Pure : Prop := ∀ (l0 : List Int) (a1 : Int), l0.length ≤ maxLen → l0.length * 8 ≤ 140737488351232 → (∀ x ∈ l0, (Lit.int .u64 x).wf = true) → (Lit.int .u64 a1).wf = true → ∃ k, thicketlaw06_OrderLists.f k l0 a1 = some true
theorem thicketlaw06_OrderLists.walk (P : thicketlaw06_OrderLists.Pure) (a0 : Option Addr) (len0 cap0 : Nat) (z0 : List Int) (a1 : Int) (w : World) (w0 : (a0 = none ∧ len0 = 0 ∧ cap0 = 0 ∧ z0 = []) ∨ ∃ x, a0 = some x ∧ len0 ≤ cap0 ∧ cap0 ≤ maxLen ∧ z0.length = cap0 ∧ (∀ i, i < z0.length → w.cell? (x.add i) = some (.int .u64 (z0.getD i 0))) ∧ ∀ n ∈ z0, (Lit.int .u64 n).wf = true) (y0 : len0 * 8 ≤ 140737488351232) (w1 : (Lit.int .u64 a1).wf = true) :
  Calls Try.prog 3 #[.slice a0 len0 cap0, .int .u64 a1] w fun e w' => e = .returned (.bool true) ∧ Below w.heap.size w w' := by
 obtain ⟨l0, rfl, hr0, hm0, hw0, hc0⟩ := ReadsInt.ofRowC w0
 obtain ⟨k, h⟩ := P l0 a1 hm0 y0 hw0 w1
 refine (thicketlaw06_OrderLists.calls k _ _ l0 a1 true w (Kd.C_of_reads (d := (0 : Int)) (h1 := fun _ => rfl) hr0) hc0 h).mono ?_
 rintro e w' ⟨rfl, hd⟩
 exact ⟨rfl, hd⟩
/-! ### math_NaN: function 34 -/
def math_NaN.f  : Option (Nat) := some (f64from 9221120237041090561)
set_option maxHeartbeats 8000000 in
set_option maxRecDepth 100000 in
theorem math_NaN.calls  (r : Nat) (w : World) (h : math_NaN.f  = some r) :
  Calls Try.prog 34 #[] w fun e w' => e = .returned (.float .f64 r) ∧ Drawn0 w w' := by
 have H : (some (f64from 9221120237041090561)) = some r := h
 clear h
 obtain rfl := Option.some.inj H
 go_enter Try.func34, Try.ntmps34
 go_wp2
 go_ret
 exact ⟨by first | rfl | (simp; done) | (simp [*]; done), by repeat (first | exact Drawn0.refl _ | apply Drawn0.step)⟩
/-! ### order_At: function 26 -/
def order_At.f (a0 : Int) : Option (Nat × Int) := if a0 > 18437736874454810625 then (some (0, 2)) else (if a0 = 18437736874454810625 then ((math_NaN.f).bind fun t180 => (some (t180, 0))) else (if a0 ≥ 9218868437227405312 then (some (f64from (IntKind.u64.wrap (a0 - 9218868437227405312)), 0)) else (some (f64from (Go.bits .or .u64 9223372036854775808 (IntKind.u64.wrap (9218868437227405312 - a0))), 0))))
set_option maxHeartbeats 8000000 in
set_option maxRecDepth 100000 in
theorem order_At.calls (a0 : Int) (r1 : Nat) (r2 : Int) (w : World) (h : order_At.f a0 = some (r1, r2)) :
  Calls Try.prog 26 #[.int .u64 a0] w fun e w' => e = .returned (.tuple #[.float .f64 r1, .int .i64 r2]) ∧ Drawn0 w w' := by
 have H : (if a0 > 18437736874454810625 then (some (0, 2)) else (if a0 = 18437736874454810625 then ((math_NaN.f).bind fun t180 => (some (t180, 0))) else (if a0 ≥ 9218868437227405312 then (some (f64from (IntKind.u64.wrap (a0 - 9218868437227405312)), 0)) else (some (f64from (Go.bits .or .u64 9223372036854775808 (IntKind.u64.wrap (9218868437227405312 - a0))), 0))))) = some (r1, r2) := h
 clear h
 by_cases c2 : a0 > 18437736874454810625
 ·rw [if_pos c2] at H
  have c2b0 : decide (18437736874454810625 < a0) = true := decide_eq_true c2
  clear c2
  simp only [Option.some.injEq, Prod.mk.injEq] at H
  obtain ⟨rfl, rfl⟩ := H
  go_enter Try.func26, Try.ntmps26
  go_wp2
  go_ret2
  exact ⟨by first | rfl | (simp; done) | (simp [*]; done), by repeat (first | exact Drawn0.refl _ | apply Drawn0.step)⟩
 ·rw [if_neg c2] at H
  have c2b0 : decide (18437736874454810625 < a0) = false := decide_eq_false c2
  clear c2
  by_cases c3 : a0 = 18437736874454810625
  ·rw [if_pos c3] at H
   have c3b0 : (a0 == 18437736874454810625) = true := beq_iff_eq.mpr c3
   have c3b1 : (a0 != 18437736874454810625) = false := bne_eq_false_iff_eq.mpr c3
   clear c3
   replace H := Option.bind_eq_some_iff.mp H
   obtain ⟨t180, A40, H⟩ := H
   replace H : (some (t180, 0)) = some (r1, r2) := H
   have A4 := Aside0.mk A40
   clear A40
   simp only [Option.some.injEq, Prod.mk.injEq] at H
   obtain ⟨rfl, rfl⟩ := H
   go_enter Try.func26, Try.ntmps26
   go_wp2_with (first | ((with_reducible refine gate_callee (f := 34) rfl ?_); refine goesL_ (some 10) rfl rfl Try.func34 (by kernel_rfl) rfl #[] rfl (by (try simp only [List.map_toArray, List.map_cons, List.map_nil]); first | done | rfl | (simp only [List.length_drop, List.length_take]; rfl)) ?_; (with_reducible refine (math_NaN.calls  t180 _ A4.out).mono ?_); rintro e w' ⟨rfl, ⟨nd, rfl⟩⟩; refine ⟨_, rfl, ?_⟩))
   go_ret2
   exact ⟨by first | rfl | (simp; done) | (simp [*]; done), by repeat (first | exact Drawn0.refl _ | apply Drawn0.step)⟩
  ·rw [if_neg c3] at H
   have c3b0 : (a0 == 18437736874454810625) = false := beq_eq_false_iff_ne.mpr c3
   have c3b1 : (a0 != 18437736874454810625) = true := bne_iff_ne.mpr c3
   by_cases c5 : a0 ≥ 9218868437227405312
   ·rw [if_pos c5] at H
    have c5b0 : decide (9218868437227405312 ≤ a0) = true := decide_eq_true c5
    clear c5
    simp only [Option.some.injEq, Prod.mk.injEq] at H
    obtain ⟨rfl, rfl⟩ := H
    go_enter Try.func26, Try.ntmps26
    go_wp2
    go_ret2
    exact ⟨by first | rfl | (simp; done) | (simp [*]; done), by repeat (first | exact Drawn0.refl _ | apply Drawn0.step)⟩
   ·rw [if_neg c5] at H
    have c5b0 : decide (9218868437227405312 ≤ a0) = false := decide_eq_false c5
    clear c5
    simp only [Option.some.injEq, Prod.mk.injEq] at H
    obtain ⟨rfl, rfl⟩ := H
    go_enter Try.func26, Try.ntmps26
    go_wp2
    go_ret2
    exact ⟨by first | rfl | (simp; done) | (simp [*]; done), by repeat (first | exact Drawn0.refl _ | apply Drawn0.step)⟩
end Go.Proofs.Ytdhiljimmijghaa.FAll
