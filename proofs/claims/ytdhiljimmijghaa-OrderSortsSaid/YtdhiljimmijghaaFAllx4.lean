-- written by fprint.sh, a program of ours over the kit's print: not by hand
import Derived.Test.YtdhiljimmijghaaFAllx0
import Derived.Test.YtdhiljimmijghaaFAllx1
import Derived.Test.YtdhiljimmijghaaFAllx2
import Derived.Test.YtdhiljimmijghaaFAllx3
namespace Go.Proofs.Ytdhiljimmijghaa.FAll
set_option linter.unusedSectionVars false
variable [OrdC]
open Go.RowKit Go.Proofs.YtdhiljimmijghaaW.PrintWords Go.Proofs.YtdhiljimmijghaaW.PrintLast Go.Proofs.YtdhiljimmijghaaW.PrintMore
attribute [local go_sem] feq_walk fne_walk flt_walk fle_walk fgt_walk fge_walk fint_walk fstore_walk run_f64bits run_f64from max2_int min2_int max_two min_two max_three min_three max_four min_four   -- for this text's walks alone
set_option linter.unusedVariables false
set_option linter.unusedSimpArgs false
/-! ### thicketlaw06_OrderSorts: function 4 -/
mutual
def thicketlaw06_OrderSorts.l0 : Nat → Int → List Nat → List Nat → Int → Option (Bool)
 | 0, _, _, _, _ => none
 | k + 1, x1, x5, x6, x7 => if x7 < (x6.length : Int) then (if 0 ≤ (wrap64 (x7 - 1)) then (if (wrap64 (x7 - 1)) < (x6.length : Int) then (if 0 ≤ x7 then ((order_Compare.f (rdOf (0 : Nat) x6 (wrap64 (x7 - 1))) (rdOf (0 : Nat) x6 x7)).bind fun t146 => (if t146 > 0 then (some false) else (thicketlaw06_OrderSorts.l0 k x1 x5 x6 (wrap64 (x7 + 1))))) else (none)) else (none)) else (none)) else ((order_Distinct.f x5).bind fun t147 => (thicketlaw06_OrderSorts.l1 k x1 x5 x6 t147 0 0))
def thicketlaw06_OrderSorts.l1 : Nat → Int → List Nat → List Nat → List Nat → Int → Int → Option (Bool)
 | 0, _, _, _, _, _, _ => none
 | k + 1, x1, x5, x6, x8, x9, x10 => if x10 < (x6.length : Int) then (if 0 ≤ x10 then (if ((feq (rdOf (0 : Nat) x6 x10) (rdOf (0 : Nat) x6 x10)) = true) then (if x10 > 0 then (if 0 ≤ (wrap64 (x10 - 1)) then (if (wrap64 (x10 - 1)) < (x6.length : Int) then (thicketlaw06_OrderSorts.j2 k x1 x5 x6 x8 x9 x10 (feq (rdOf (0 : Nat) x6 x10) (rdOf (0 : Nat) x6 (wrap64 (x10 - 1))))) else (none)) else (none)) else (thicketlaw06_OrderSorts.j2 k x1 x5 x6 x8 x9 x10 false)) else (thicketlaw06_OrderSorts.j2 k x1 x5 x6 x8 x9 x10 true)) else (none)) else ((order_Below.f k x6 (f64from x1)).bind fun t159 => (if x9 = (x8.length : Int) then (if t159 < 0 then (thicketlaw06_OrderSorts.j3 k x6 (f64from x1) t159 true) else (if t159 > (x6.length : Int) then (thicketlaw06_OrderSorts.j3 k x6 (f64from x1) t159 true) else ((order_Below.f k x5 (f64from x1)).bind fun t160 => (thicketlaw06_OrderSorts.j3 k x6 (f64from x1) t159 (t160 != t159))))) else (thicketlaw06_OrderSorts.j3 k x6 (f64from x1) t159 true)))
def thicketlaw06_OrderSorts.j2 : Nat → Int → List Nat → List Nat → List Nat → Int → Int → Bool → Option (Bool)
 | 0, _, _, _, _, _, _, _ => none
 | k + 1, x1, x5, x6, x8, x9, x10, x73 => if x73 = true then (thicketlaw06_OrderSorts.l1 k x1 x5 x6 x8 x9 (wrap64 (x10 + 1))) else (if x9 = (x8.length : Int) then (some false) else (if 0 ≤ x9 then (if x9 < (x8.length : Int) then (if 0 ≤ x10 then (if x10 < (x6.length : Int) then (if ((feq (rdOf (0 : Nat) x8 x9) (rdOf (0 : Nat) x6 x10)) = true) then (if (feq (rdOf (0 : Nat) x8 x9) 0) = true then ((math_Signbit.f (rdOf (0 : Nat) x8 x9)).bind fun t158 => (if t158 = true then (some false) else (thicketlaw06_OrderSorts.l1 k x1 x5 x6 x8 (wrap64 (x9 + 1)) (wrap64 (x10 + 1))))) else (thicketlaw06_OrderSorts.l1 k x1 x5 x6 x8 (wrap64 (x9 + 1)) (wrap64 (x10 + 1)))) else (some false)) else (none)) else (none)) else (none)) else (none)))
def thicketlaw06_OrderSorts.j3 : Nat → List Nat → Nat → Int → Bool → Option (Bool)
 | 0, _, _, _, _ => none
 | k + 1, x6, x11, x12, x130 => if x130 = true then (some false) else (thicketlaw06_OrderSorts.l2 k x6 x11 x12 0)
def thicketlaw06_OrderSorts.l2 : Nat → List Nat → Nat → Int → Int → Option (Bool)
 | 0, _, _, _, _ => none
 | k + 1, x6, x11, x12, x13 => if x13 < (x6.length : Int) then (if 0 ≤ x13 then ((order_Compare.f (rdOf (0 : Nat) x6 x13) x11).bind fun t162 => (if ((decide (t162 < 0)) != (decide (x13 < x12))) = true then (some false) else (thicketlaw06_OrderSorts.l2 k x6 x11 x12 (wrap64 (x13 + 1))))) else (none)) else (some true)
end
def thicketlaw06_OrderSorts.f (k : Nat) (l0 : List Int) (a1 : Int) : Option (Bool) := (thicketlaw06_begins.f).bind fun t136 => (if t136 = true then ((thicketlaw06_list.f k l0).bind fun t137 => ((order_Sorted.f t137).bind fun t140 => ((thicketlaw06_counts.f k t137 t140).bind fun t143 => (if t143 = true then (thicketlaw06_OrderSorts.l0 k a1 t137 t140 1) else (some false))))) else (some false))
theorem thicketlaw06_OrderSorts.mono_l : ∀ k, (∀ y0 y1 y2 y3, LeO (thicketlaw06_OrderSorts.l0 k y0 y1 y2 y3) (thicketlaw06_OrderSorts.l0 (k + 1) y0 y1 y2 y3)) ∧ (∀ y0 y1 y2 y3 y4 y5, LeO (thicketlaw06_OrderSorts.l1 k y0 y1 y2 y3 y4 y5) (thicketlaw06_OrderSorts.l1 (k + 1) y0 y1 y2 y3 y4 y5)) ∧ (∀ y0 y1 y2 y3 y4 y5 y6, LeO (thicketlaw06_OrderSorts.j2 k y0 y1 y2 y3 y4 y5 y6) (thicketlaw06_OrderSorts.j2 (k + 1) y0 y1 y2 y3 y4 y5 y6)) ∧ (∀ y0 y1 y2 y3, LeO (thicketlaw06_OrderSorts.j3 k y0 y1 y2 y3) (thicketlaw06_OrderSorts.j3 (k + 1) y0 y1 y2 y3)) ∧ (∀ y0 y1 y2 y3, LeO (thicketlaw06_OrderSorts.l2 k y0 y1 y2 y3) (thicketlaw06_OrderSorts.l2 (k + 1) y0 y1 y2 y3))
 | 0 => ⟨fun _ _ _ _ r h => by simp [thicketlaw06_OrderSorts.l0] at h, fun _ _ _ _ _ _ r h => by simp [thicketlaw06_OrderSorts.l1] at h, fun _ _ _ _ _ _ _ r h => by simp [thicketlaw06_OrderSorts.j2] at h, fun _ _ _ _ r h => by simp [thicketlaw06_OrderSorts.j3] at h, fun _ _ _ _ r h => by simp [thicketlaw06_OrderSorts.l2] at h⟩
 | k + 1 => by
  obtain ⟨ih0, ih1, ih2, ih3, ih4⟩ := thicketlaw06_OrderSorts.mono_l k
  refine ⟨?_, ?_, ?_, ?_, ?_⟩
  ·intro y0 y1 y2 y3
   unfold thicketlaw06_OrderSorts.l0
   repeat' first
   | (with_reducible exact ih0 _ _ _ _)
   | (with_reducible exact ih1 _ _ _ _ _ _)
   | (with_reducible exact ih2 _ _ _ _ _ _ _)
   | (with_reducible exact ih3 _ _ _ _)
   | (with_reducible exact ih4 _ _ _ _)
   | (with_reducible exact order_Below.mono _ _ _)
   | (with_reducible exact thicketlaw06_counts.mono _ _ _)
   | (with_reducible exact thicketlaw06_list.mono _ _)
   | (with_reducible exact LeO.refl _)
   | (with_reducible exact LeO.none _)
   | (with_reducible refine LeO.ite ?_ ?_)
   | (with_reducible refine LeO.bind ?_ (fun _ => ?_))
   | exact ih0 _ _ _ _
   | exact ih1 _ _ _ _ _ _
   | exact ih2 _ _ _ _ _ _ _
   | exact ih3 _ _ _ _
   | exact ih4 _ _ _ _
   | exact order_Below.mono _ _ _
   | exact thicketlaw06_counts.mono _ _ _
   | exact thicketlaw06_list.mono _ _
   | exact LeO.none _
   | refine LeO.ite ?_ ?_
   | refine LeO.bind ?_ (fun _ => ?_)
  ·intro y0 y1 y2 y3 y4 y5
   unfold thicketlaw06_OrderSorts.l1
   repeat' first
   | (with_reducible exact ih0 _ _ _ _)
   | (with_reducible exact ih1 _ _ _ _ _ _)
   | (with_reducible exact ih2 _ _ _ _ _ _ _)
   | (with_reducible exact ih3 _ _ _ _)
   | (with_reducible exact ih4 _ _ _ _)
   | (with_reducible exact order_Below.mono _ _ _)
   | (with_reducible exact thicketlaw06_counts.mono _ _ _)
   | (with_reducible exact thicketlaw06_list.mono _ _)
   | (with_reducible exact LeO.refl _)
   | (with_reducible exact LeO.none _)
   | (with_reducible refine LeO.ite ?_ ?_)
   | (with_reducible refine LeO.bind ?_ (fun _ => ?_))
   | exact ih0 _ _ _ _
   | exact ih1 _ _ _ _ _ _
   | exact ih2 _ _ _ _ _ _ _
   | exact ih3 _ _ _ _
   | exact ih4 _ _ _ _
   | exact order_Below.mono _ _ _
   | exact thicketlaw06_counts.mono _ _ _
   | exact thicketlaw06_list.mono _ _
   | exact LeO.none _
   | refine LeO.ite ?_ ?_
   | refine LeO.bind ?_ (fun _ => ?_)
  ·intro y0 y1 y2 y3 y4 y5 y6
   unfold thicketlaw06_OrderSorts.j2
   repeat' first
   | (with_reducible exact ih0 _ _ _ _)
   | (with_reducible exact ih1 _ _ _ _ _ _)
   | (with_reducible exact ih2 _ _ _ _ _ _ _)
   | (with_reducible exact ih3 _ _ _ _)
   | (with_reducible exact ih4 _ _ _ _)
   | (with_reducible exact order_Below.mono _ _ _)
   | (with_reducible exact thicketlaw06_counts.mono _ _ _)
   | (with_reducible exact thicketlaw06_list.mono _ _)
   | (with_reducible exact LeO.refl _)
   | (with_reducible exact LeO.none _)
   | (with_reducible refine LeO.ite ?_ ?_)
   | (with_reducible refine LeO.bind ?_ (fun _ => ?_))
   | exact ih0 _ _ _ _
   | exact ih1 _ _ _ _ _ _
   | exact ih2 _ _ _ _ _ _ _
   | exact ih3 _ _ _ _
   | exact ih4 _ _ _ _
   | exact order_Below.mono _ _ _
   | exact thicketlaw06_counts.mono _ _ _
   | exact thicketlaw06_list.mono _ _
   | exact LeO.none _
   | refine LeO.ite ?_ ?_
   | refine LeO.bind ?_ (fun _ => ?_)
  ·intro y0 y1 y2 y3
   unfold thicketlaw06_OrderSorts.j3
   repeat' first
   | (with_reducible exact ih0 _ _ _ _)
   | (with_reducible exact ih1 _ _ _ _ _ _)
   | (with_reducible exact ih2 _ _ _ _ _ _ _)
   | (with_reducible exact ih3 _ _ _ _)
   | (with_reducible exact ih4 _ _ _ _)
   | (with_reducible exact order_Below.mono _ _ _)
   | (with_reducible exact thicketlaw06_counts.mono _ _ _)
   | (with_reducible exact thicketlaw06_list.mono _ _)
   | (with_reducible exact LeO.refl _)
   | (with_reducible exact LeO.none _)
   | (with_reducible refine LeO.ite ?_ ?_)
   | (with_reducible refine LeO.bind ?_ (fun _ => ?_))
   | exact ih0 _ _ _ _
   | exact ih1 _ _ _ _ _ _
   | exact ih2 _ _ _ _ _ _ _
   | exact ih3 _ _ _ _
   | exact ih4 _ _ _ _
   | exact order_Below.mono _ _ _
   | exact thicketlaw06_counts.mono _ _ _
   | exact thicketlaw06_list.mono _ _
   | exact LeO.none _
   | refine LeO.ite ?_ ?_
   | refine LeO.bind ?_ (fun _ => ?_)
  ·intro y0 y1 y2 y3
   unfold thicketlaw06_OrderSorts.l2
   repeat' first
   | (with_reducible exact ih0 _ _ _ _)
   | (with_reducible exact ih1 _ _ _ _ _ _)
   | (with_reducible exact ih2 _ _ _ _ _ _ _)
   | (with_reducible exact ih3 _ _ _ _)
   | (with_reducible exact ih4 _ _ _ _)
   | (with_reducible exact order_Below.mono _ _ _)
   | (with_reducible exact thicketlaw06_counts.mono _ _ _)
   | (with_reducible exact thicketlaw06_list.mono _ _)
   | (with_reducible exact LeO.refl _)
   | (with_reducible exact LeO.none _)
   | (with_reducible refine LeO.ite ?_ ?_)
   | (with_reducible refine LeO.bind ?_ (fun _ => ?_))
   | exact ih0 _ _ _ _
   | exact ih1 _ _ _ _ _ _
   | exact ih2 _ _ _ _ _ _ _
   | exact ih3 _ _ _ _
   | exact ih4 _ _ _ _
   | exact order_Below.mono _ _ _
   | exact thicketlaw06_counts.mono _ _ _
   | exact thicketlaw06_list.mono _ _
   | exact LeO.none _
   | refine LeO.ite ?_ ?_
   | refine LeO.bind ?_ (fun _ => ?_)
theorem thicketlaw06_OrderSorts.mono : ∀ a0 a1 k, LeO (thicketlaw06_OrderSorts.f k a0 a1) (thicketlaw06_OrderSorts.f (k + 1) a0 a1) := by
 intro a0 a1 k
 obtain ⟨ih0, ih1, ih2, ih3, ih4⟩ := thicketlaw06_OrderSorts.mono_l k
 unfold thicketlaw06_OrderSorts.f
 repeat' first
   | (with_reducible exact ih0 _ _ _ _)
   | (with_reducible exact ih1 _ _ _ _ _ _)
   | (with_reducible exact ih2 _ _ _ _ _ _ _)
   | (with_reducible exact ih3 _ _ _ _)
   | (with_reducible exact ih4 _ _ _ _)
   | (with_reducible exact order_Below.mono _ _ _)
   | (with_reducible exact thicketlaw06_counts.mono _ _ _)
   | (with_reducible exact thicketlaw06_list.mono _ _)
   | (with_reducible exact LeO.refl _)
   | (with_reducible exact LeO.none _)
   | (with_reducible refine LeO.ite ?_ ?_)
   | (with_reducible refine LeO.bind ?_ (fun _ => ?_))
   | exact ih0 _ _ _ _
   | exact ih1 _ _ _ _ _ _
   | exact ih2 _ _ _ _ _ _ _
   | exact ih3 _ _ _ _
   | exact ih4 _ _ _ _
   | exact order_Below.mono _ _ _
   | exact thicketlaw06_counts.mono _ _ _
   | exact thicketlaw06_list.mono _ _
   | exact LeO.none _
   | refine LeO.ite ?_ ?_
   | refine LeO.bind ?_ (fun _ => ?_)
set_option maxHeartbeats 8000000 in
set_option maxRecDepth 100000 in
theorem thicketlaw06_OrderSorts.calls (k : Nat) (A0 : Option Addr) (c0 : Nat) (l0 : List Int) (a1 : Int) (r : Bool) (w : World) (hr0 : Kd.C (Kd.int .u64) w A0 l0.length l0) (hc0 : l0.length ≤ c0) (h : thicketlaw06_OrderSorts.f k l0 a1 = some r) :
  Calls Try.prog 4 #[.slice A0 l0.length c0, .int .u64 a1] w fun e w' => e = .returned (.bool r) ∧ Below w.heap.size w w' := by
 have HR0 := Aside0.mk hr0
 have HC0 := Aside0.mk hc0
 clear hr0 hc0
 have HB := Aside0.mk (Below.refl w.heap.size w)
 have H : ((thicketlaw06_begins.f).bind fun t136 => (if t136 = true then ((thicketlaw06_list.f k l0).bind fun t137 => ((order_Sorted.f t137).bind fun t140 => ((thicketlaw06_counts.f k t137 t140).bind fun t143 => (if t143 = true then (thicketlaw06_OrderSorts.l0 k a1 t137 t140 1) else (some false))))) else (some false))) = some r := h
 clear h
 replace H := Option.bind_eq_some_iff.mp H
 obtain ⟨t136, A30, H⟩ := H
 replace H : (if t136 = true then ((thicketlaw06_list.f k l0).bind fun t137 => ((order_Sorted.f t137).bind fun t140 => ((thicketlaw06_counts.f k t137 t140).bind fun t143 => (if t143 = true then (thicketlaw06_OrderSorts.l0 k a1 t137 t140 1) else (some false))))) else (some false)) = some r := H
 have A3 := Aside0.mk A30
 clear A30
 by_cases c4 : t136 = true
 ·subst c4
  have H1 : ((thicketlaw06_list.f k l0).bind fun t137 => ((order_Sorted.f t137).bind fun t140 => ((thicketlaw06_counts.f k t137 t140).bind fun t143 => (if t143 = true then (thicketlaw06_OrderSorts.l0 k a1 t137 t140 1) else (some false))))) = some r := by rw [if_pos rfl] at H; exact H
  clear H
  have H := H1
  clear H1
  replace H := Option.bind_eq_some_iff.mp H
  obtain ⟨t137, A50, H⟩ := H
  replace H : ((order_Sorted.f t137).bind fun t140 => ((thicketlaw06_counts.f k t137 t140).bind fun t143 => (if t143 = true then (thicketlaw06_OrderSorts.l0 k a1 t137 t140 1) else (some false)))) = some r := H
  have A5 := Aside0.mk A50
  clear A50
  replace H := Option.bind_eq_some_iff.mp H
  obtain ⟨t140, A60, H⟩ := H
  replace H : ((thicketlaw06_counts.f k t137 t140).bind fun t143 => (if t143 = true then (thicketlaw06_OrderSorts.l0 k a1 t137 t140 1) else (some false))) = some r := H
  have A6 := Aside0.mk A60
  clear A60
  replace H := Option.bind_eq_some_iff.mp H
  obtain ⟨t143, A70, H⟩ := H
  replace H : (if t143 = true then (thicketlaw06_OrderSorts.l0 k a1 t137 t140 1) else (some false)) = some r := H
  have A7 := Aside0.mk A70
  clear A70
  by_cases c8 : t143 = true
  ·subst c8
   have H1 : (thicketlaw06_OrderSorts.l0 k a1 t137 t140 1) = some r := by rw [if_pos rfl] at H; exact H
   clear H
   have H := H1
   clear H1
   have H' := Aside0.mk H
   clear H
   go_enter Try.func4, Try.ntmps4
   go_wp2_with (first | (go_at_call 15; (with_reducible refine (thicketlaw06_begins.calls  true _ A3.out).mono ?_); rintro e w' ⟨rfl, ⟨nd, rfl⟩⟩; (try first | exact ⟨rfl, _, World.drewN_drewN _ _ _⟩ | exact ⟨rfl, _, Eq.trans (World.drewN_drewN _ _ _) (congrArg (World.drewN _) (Nat.add_assoc _ _ _))⟩)) | (go_at_call 6; (with_reducible refine (thicketlaw06_list.calls k _ _ l0 t137 _ ?side1 ?side2 A5.out).mono ?_); (case side1 => repeat (first | exact HR0.out | (with_reducible refine Kd.C_alloc ?_ _) | (with_reducible refine Kd.C_drewN ?_ _) | (with_reducible refine Kd.C_drew ?_))); (case side2 => exact HC0.out); rintro e w9 ⟨v138, rfl, ho0, hb⟩; have n0_ := Aside0.mk (Kd.R_lower ho0 (below_size (kB0 HB))); have n1_ := Aside0.mk (below_step (kB0 HB) hb); clear HB; have HO139 := n0_; have HB := n1_; clear n0_ n1_; (try clear hb); (try clear hb2); (try clear hk); (try clear hi); (try clear ho0); obtain ⟨Ao10, co10, eo10⟩ := Kd.R_slice HO139.out; subst eo10) | (go_at_call 9; (with_reducible refine (order_Sorted.calls _ _ t137 t140 _ ?side1 ?side2 A6.out).mono ?_); (case side1 => repeat (first | exact (Kd.R_reads' HO139.out).2.2 | (with_reducible refine Kd.C_alloc ?_ _) | (with_reducible refine Kd.C_drewN ?_ _) | (with_reducible refine Kd.C_drew ?_))); (case side2 => exact (Kd.R_reads' HO139.out).2.1); rintro e w11 ⟨v141, rfl, ho0, hb⟩; have n0_ := Aside0.mk (Kd.R_elder' (kR HO139) (Kd.R_base ho0) hb); have n1_ := Aside0.mk (Kd.R_lower (Kd.R_new' ho0 (Kd.R_lt (kR HO139))) (below_size (kB0 HB))); have n2_ := Aside0.mk (below_step (kB0 HB) hb); clear HO139; clear HB; have HO139 := n0_; have HO142 := n1_; have HB := n2_; clear n0_ n1_ n2_; (try clear hb); (try clear hb2); (try clear hk); (try clear hi); (try clear ho0); obtain ⟨Ao12, co12, eo12⟩ := Kd.R_slice HO142.out; subst eo12) | (go_at_call 16; (with_reducible refine (thicketlaw06_counts.calls k _ _ t137 _ _ t140 true _ ?side1 ?side2 ?side3 ?side4 A7.out).mono ?_); (case side1 => repeat (first | exact (Kd.R_reads' HO139.out).2.2 | (with_reducible refine Kd.C_alloc ?_ _) | (with_reducible refine Kd.C_drewN ?_ _) | (with_reducible refine Kd.C_drew ?_))); (case side2 => exact (Kd.R_reads' HO139.out).2.1); (case side3 => repeat (first | exact (Kd.R_reads' HO142.out).2.2 | (with_reducible refine Kd.C_alloc ?_ _) | (with_reducible refine Kd.C_drewN ?_ _) | (with_reducible refine Kd.C_drew ?_))); (case side4 => exact (Kd.R_reads' HO142.out).2.1); rintro e w13 ⟨rfl, hb⟩; have n0_ := Aside0.mk (Kd.R_below (kR HO139) hb); have n1_ := Aside0.mk (Kd.R_below (kR HO142) hb); have n2_ := Aside0.mk (below_step (kB0 HB) hb); clear HO139; clear HO142; clear HB; have HO139 := n0_; have HO142 := n1_; have HB := n2_; clear n0_ n1_ n2_; (try clear hb); (try clear hb2); (try clear hk); (try clear hi)))
   repeat (go_quiet (first | (go_at_call 15; (with_reducible refine (thicketlaw06_begins.calls  true _ A3.out).mono ?_); rintro e w' ⟨rfl, ⟨nd, rfl⟩⟩; (try first | exact ⟨rfl, _, World.drewN_drewN _ _ _⟩ | exact ⟨rfl, _, Eq.trans (World.drewN_drewN _ _ _) (congrArg (World.drewN _) (Nat.add_assoc _ _ _))⟩)) | (go_at_call 6; (with_reducible refine (thicketlaw06_list.calls k _ _ l0 t137 _ ?side1 ?side2 A5.out).mono ?_); (case side1 => repeat (first | exact HR0.out | (with_reducible refine Kd.C_alloc ?_ _) | (with_reducible refine Kd.C_drewN ?_ _) | (with_reducible refine Kd.C_drew ?_))); (case side2 => exact HC0.out); rintro e w9 ⟨v138, rfl, ho0, hb⟩; have n0_ := Aside0.mk (Kd.R_lower ho0 (below_size (kB0 HB))); have n1_ := Aside0.mk (below_step (kB0 HB) hb); clear HB; have HO139 := n0_; have HB := n1_; clear n0_ n1_; (try clear hb); (try clear hb2); (try clear hk); (try clear hi); (try clear ho0); obtain ⟨Ao10, co10, eo10⟩ := Kd.R_slice HO139.out; subst eo10) | (go_at_call 9; (with_reducible refine (order_Sorted.calls _ _ t137 t140 _ ?side1 ?side2 A6.out).mono ?_); (case side1 => repeat (first | exact (Kd.R_reads' HO139.out).2.2 | (with_reducible refine Kd.C_alloc ?_ _) | (with_reducible refine Kd.C_drewN ?_ _) | (with_reducible refine Kd.C_drew ?_))); (case side2 => exact (Kd.R_reads' HO139.out).2.1); rintro e w11 ⟨v141, rfl, ho0, hb⟩; have n0_ := Aside0.mk (Kd.R_elder' (kR HO139) (Kd.R_base ho0) hb); have n1_ := Aside0.mk (Kd.R_lower (Kd.R_new' ho0 (Kd.R_lt (kR HO139))) (below_size (kB0 HB))); have n2_ := Aside0.mk (below_step (kB0 HB) hb); clear HO139; clear HB; have HO139 := n0_; have HO142 := n1_; have HB := n2_; clear n0_ n1_ n2_; (try clear hb); (try clear hb2); (try clear hk); (try clear hi); (try clear ho0); obtain ⟨Ao12, co12, eo12⟩ := Kd.R_slice HO142.out; subst eo12) | (go_at_call 16; (with_reducible refine (thicketlaw06_counts.calls k _ _ t137 _ _ t140 true _ ?side1 ?side2 ?side3 ?side4 A7.out).mono ?_); (case side1 => repeat (first | exact (Kd.R_reads' HO139.out).2.2 | (with_reducible refine Kd.C_alloc ?_ _) | (with_reducible refine Kd.C_drewN ?_ _) | (with_reducible refine Kd.C_drew ?_))); (case side2 => exact (Kd.R_reads' HO139.out).2.1); (case side3 => repeat (first | exact (Kd.R_reads' HO142.out).2.2 | (with_reducible refine Kd.C_alloc ?_ _) | (with_reducible refine Kd.C_drewN ?_ _) | (with_reducible refine Kd.C_drew ?_))); (case side4 => exact (Kd.R_reads' HO142.out).2.1); rintro e w13 ⟨rfl, hb⟩; have n0_ := Aside0.mk (Kd.R_below (kR HO139) hb); have n1_ := Aside0.mk (Kd.R_below (kR HO142) hb); have n2_ := Aside0.mk (below_step (kB0 HB) hb); clear HO139; clear HO142; clear HB; have HO139 := n0_; have HO142 := n1_; have HB := n2_; clear n0_ n1_ n2_; (try clear hb); (try clear hb2); (try clear hk); (try clear hi))); try go_wp2_with (first | (go_at_call 15; (with_reducible refine (thicketlaw06_begins.calls  true _ A3.out).mono ?_); rintro e w' ⟨rfl, ⟨nd, rfl⟩⟩; (try first | exact ⟨rfl, _, World.drewN_drewN _ _ _⟩ | exact ⟨rfl, _, Eq.trans (World.drewN_drewN _ _ _) (congrArg (World.drewN _) (Nat.add_assoc _ _ _))⟩)) | (go_at_call 6; (with_reducible refine (thicketlaw06_list.calls k _ _ l0 t137 _ ?side1 ?side2 A5.out).mono ?_); (case side1 => repeat (first | exact HR0.out | (with_reducible refine Kd.C_alloc ?_ _) | (with_reducible refine Kd.C_drewN ?_ _) | (with_reducible refine Kd.C_drew ?_))); (case side2 => exact HC0.out); rintro e w9 ⟨v138, rfl, ho0, hb⟩; have n0_ := Aside0.mk (Kd.R_lower ho0 (below_size (kB0 HB))); have n1_ := Aside0.mk (below_step (kB0 HB) hb); clear HB; have HO139 := n0_; have HB := n1_; clear n0_ n1_; (try clear hb); (try clear hb2); (try clear hk); (try clear hi); (try clear ho0); obtain ⟨Ao10, co10, eo10⟩ := Kd.R_slice HO139.out; subst eo10) | (go_at_call 9; (with_reducible refine (order_Sorted.calls _ _ t137 t140 _ ?side1 ?side2 A6.out).mono ?_); (case side1 => repeat (first | exact (Kd.R_reads' HO139.out).2.2 | (with_reducible refine Kd.C_alloc ?_ _) | (with_reducible refine Kd.C_drewN ?_ _) | (with_reducible refine Kd.C_drew ?_))); (case side2 => exact (Kd.R_reads' HO139.out).2.1); rintro e w11 ⟨v141, rfl, ho0, hb⟩; have n0_ := Aside0.mk (Kd.R_elder' (kR HO139) (Kd.R_base ho0) hb); have n1_ := Aside0.mk (Kd.R_lower (Kd.R_new' ho0 (Kd.R_lt (kR HO139))) (below_size (kB0 HB))); have n2_ := Aside0.mk (below_step (kB0 HB) hb); clear HO139; clear HB; have HO139 := n0_; have HO142 := n1_; have HB := n2_; clear n0_ n1_ n2_; (try clear hb); (try clear hb2); (try clear hk); (try clear hi); (try clear ho0); obtain ⟨Ao12, co12, eo12⟩ := Kd.R_slice HO142.out; subst eo12) | (go_at_call 16; (with_reducible refine (thicketlaw06_counts.calls k _ _ t137 _ _ t140 true _ ?side1 ?side2 ?side3 ?side4 A7.out).mono ?_); (case side1 => repeat (first | exact (Kd.R_reads' HO139.out).2.2 | (with_reducible refine Kd.C_alloc ?_ _) | (with_reducible refine Kd.C_drewN ?_ _) | (with_reducible refine Kd.C_drew ?_))); (case side2 => exact (Kd.R_reads' HO139.out).2.1); (case side3 => repeat (first | exact (Kd.R_reads' HO142.out).2.2 | (with_reducible refine Kd.C_alloc ?_ _) | (with_reducible refine Kd.C_drewN ?_ _) | (with_reducible refine Kd.C_drew ?_))); (case side4 => exact (Kd.R_reads' HO142.out).2.1); rintro e w13 ⟨rfl, hb⟩; have n0_ := Aside0.mk (Kd.R_below (kR HO139) hb); have n1_ := Aside0.mk (Kd.R_below (kR HO142) hb); have n2_ := Aside0.mk (below_step (kB0 HB) hb); clear HO139; clear HO142; clear HB; have HO139 := n0_; have HO142 := n1_; have HB := n2_; clear n0_ n1_ n2_; (try clear hb); (try clear hb2); (try clear hk); (try clear hi))))
   go_loopg [7] k (fun kq v7 w' => ∃ (x7_1 : Int), v7 = .int .i64 x7_1 ∧ Aside0 (thicketlaw06_OrderSorts.l0 kq a1 t137 t140 x7_1 = some r) ∧ Aside0 (kq ≤ k) ∧ Aside0 (Kd.R Kd.f64 26 w' w.heap.size (fun k_ => some k_ ≠ ((.slice Ao12 t140.length co12) : Value).ownBlock) (.slice Ao10 t137.length co10) t137) ∧ Aside0 (Kd.R Kd.f64 26 w' w.heap.size (fun k_ => some k_ ≠ ((.slice Ao10 t137.length co10) : Value).ownBlock) (.slice Ao12 t140.length co12) t140) ∧ Aside0 (Below w.heap.size w w'))
   case atStart => exact ⟨(1), kr, H', ⟨Nat.le_refl _⟩, ⟨by (with_reducible repeat (first | apply Kd.R_alloc | apply Kd.R_drewN | apply Kd.R_drew)); exact Kd.R_mono HO139.out (fun _ hk => hk.2)⟩, ⟨by (with_reducible repeat (first | apply Kd.R_alloc | apply Kd.R_drewN | apply Kd.R_drew)); exact Kd.R_mono HO142.out (fun _ hk => hk.2)⟩, ⟨kB0 HB⟩⟩
   case round =>
    clear H'
    try clear p2
    try clear c4
    try clear c8
    obtain ⟨x7_1, rfl, HA, HK1, HO_5, HO_6, HB⟩ := hrel
    cases gk with
    | zero => exact absurd HA.out (by simp [thicketlaw06_OrderSorts.l0])
    | succ k1 =>
     have H := HA.out
     clear HA
     simp only [thicketlaw06_OrderSorts.l0] at H
     by_cases c14 : x7_1 < (t140.length : Int)
     ·rw [if_pos c14] at H
      have c14b0 : decide (x7_1 < (t140.length : Int)) = true := decide_eq_true c14
      clear c14
      obtain ⟨ji15, hji15⟩ : ∃ j_ : Int, (wrap64 (x7_1 - 1)) = j_ := ⟨_, rfl⟩
      replace H : (if 0 ≤ (ji15) then (if (ji15) < (t140.length : Int) then (if 0 ≤ x7_1 then ((order_Compare.f (rdOf (0 : Nat) t140 (ji15)) (rdOf (0 : Nat) t140 x7_1)).bind fun t146 => (if t146 > 0 then (some false) else (thicketlaw06_OrderSorts.l0 k1 a1 t137 t140 (wrap64 (x7_1 + 1))))) else (none)) else (none)) else (none)) = some r := by first | (rw [hji15] at H; exact H) | (simp only [hji15] at H ⊢; exact H)
      have hji15w : (IntKind.i64.wrap (x7_1 - 1)) = ji15 := (i64_w _).trans hji15
      by_cases c16 : 0 ≤ (ji15)
      ·rw [if_pos c16] at H
       have c16b0 : decide (0 ≤ (ji15)) = true := decide_eq_true c16
       clear c16
       by_cases c17 : (ji15) < (t140.length : Int)
       ·rw [if_pos c17] at H
        have c17b0 : decide ((ji15) < (t140.length : Int)) = true := decide_eq_true c17
        clear c17
        by_cases c18 : 0 ≤ x7_1
        ·rw [if_pos c18] at H
         have c18b0 : decide (0 ≤ x7_1) = true := decide_eq_true c18
         clear c18
         replace H := Option.bind_eq_some_iff.mp H
         obtain ⟨t146, A190, H⟩ := H
         replace H : (if t146 > 0 then (some false) else (thicketlaw06_OrderSorts.l0 k1 a1 t137 t140 (wrap64 (x7_1 + 1)))) = some r := H
         have A19 := Aside0.mk A190
         clear A190
         by_cases c20 : t146 > 0
         ·rw [if_pos c20] at H
          have c20b0 : decide (0 < t146) = true := decide_eq_true c20
          clear c20
          obtain rfl := Option.some.inj H
          have p144 : 0 ≤ ((ji15) : Int) := of_decide_eq_true ka
          have q144 : (ji15) < (t140.length : Int) := of_decide_eq_true ka
          obtain ⟨ad144, e144, hx144_0⟩ := Kd.at_f64 (Kd.R_reads' HO_6.out).2.2 (ji15) p144 q144
          cases e144
          replace p144 := eq_true p144
          replace q144 := eq_true q144
          have p145 : 0 ≤ (x7_1 : Int) := of_decide_eq_true ka
          have q145 : x7_1 < (t140.length : Int) := of_decide_eq_true ka
          obtain ⟨ad145, e145, hx145_0⟩ := Kd.at_f64 (Kd.R_reads' HO_6.out).2.2 x7_1 p145 q145
          obtain rfl : ad144 = ad145 := (by injection e145)
          replace p145 := eq_true p145
          replace q145 := eq_true q145
          go_wp2_with (first | (go_at_call 17; (with_reducible refine (order_Compare.calls (rdOf (0 : Nat) t140 (ji15)) (rdOf (0 : Nat) t140 x7_1) t146 _ A19.out).mono ?_); rintro e w' ⟨rfl, ⟨nd, rfl⟩⟩; (try first | exact ⟨rfl, _, World.drewN_drewN _ _ _⟩ | exact ⟨rfl, _, Eq.trans (World.drewN_drewN _ _ _) (congrArg (World.drewN _) (Nat.add_assoc _ _ _))⟩)))
          repeat (go_quiet (first | (go_at_call 17; (with_reducible refine (order_Compare.calls (rdOf (0 : Nat) t140 (ji15)) (rdOf (0 : Nat) t140 x7_1) t146 _ A19.out).mono ?_); rintro e w' ⟨rfl, ⟨nd, rfl⟩⟩; (try first | exact ⟨rfl, _, World.drewN_drewN _ _ _⟩ | exact ⟨rfl, _, Eq.trans (World.drewN_drewN _ _ _) (congrArg (World.drewN _) (Nat.add_assoc _ _ _))⟩))); try go_wp2_with (first | (go_at_call 17; (with_reducible refine (order_Compare.calls (rdOf (0 : Nat) t140 (ji15)) (rdOf (0 : Nat) t140 x7_1) t146 _ A19.out).mono ?_); rintro e w' ⟨rfl, ⟨nd, rfl⟩⟩; (try first | exact ⟨rfl, _, World.drewN_drewN _ _ _⟩ | exact ⟨rfl, _, Eq.trans (World.drewN_drewN _ _ _) (congrArg (World.drewN _) (Nat.add_assoc _ _ _))⟩))))
          go_ret
          exact ⟨by first | rfl | (simp [errW_none, errW_some] <;> rfl) | (simp only [← hji15]; first | rfl | (simp [errW_none, errW_some] <;> rfl)) | (simp [*, errW_none, errW_some] <;> rfl), kB0 HB⟩
         ·rw [if_neg c20] at H
          have c20b0 : decide (0 < t146) = false := decide_eq_false c20
          clear c20
          have H' := Aside0.mk H
          clear H
          have p144 : 0 ≤ ((ji15) : Int) := of_decide_eq_true ka
          have q144 : (ji15) < (t140.length : Int) := of_decide_eq_true ka
          obtain ⟨ad144, e144, hx144_0⟩ := Kd.at_f64 (Kd.R_reads' HO_6.out).2.2 (ji15) p144 q144
          cases e144
          replace p144 := eq_true p144
          replace q144 := eq_true q144
          have p145 : 0 ≤ (x7_1 : Int) := of_decide_eq_true ka
          have q145 : x7_1 < (t140.length : Int) := of_decide_eq_true ka
          obtain ⟨ad145, e145, hx145_0⟩ := Kd.at_f64 (Kd.R_reads' HO_6.out).2.2 x7_1 p145 q145
          obtain rfl : ad144 = ad145 := (by injection e145)
          replace p145 := eq_true p145
          replace q145 := eq_true q145
          go_wp2_with (first | (go_at_call 17; (with_reducible refine (order_Compare.calls (rdOf (0 : Nat) t140 (ji15)) (rdOf (0 : Nat) t140 x7_1) t146 _ A19.out).mono ?_); rintro e w' ⟨rfl, ⟨nd, rfl⟩⟩; (try first | exact ⟨rfl, _, World.drewN_drewN _ _ _⟩ | exact ⟨rfl, _, Eq.trans (World.drewN_drewN _ _ _) (congrArg (World.drewN _) (Nat.add_assoc _ _ _))⟩)))
          repeat (go_quiet (first | (go_at_call 17; (with_reducible refine (order_Compare.calls (rdOf (0 : Nat) t140 (ji15)) (rdOf (0 : Nat) t140 x7_1) t146 _ A19.out).mono ?_); rintro e w' ⟨rfl, ⟨nd, rfl⟩⟩; (try first | exact ⟨rfl, _, World.drewN_drewN _ _ _⟩ | exact ⟨rfl, _, Eq.trans (World.drewN_drewN _ _ _) (congrArg (World.drewN _) (Nat.add_assoc _ _ _))⟩))); try go_wp2_with (first | (go_at_call 17; (with_reducible refine (order_Compare.calls (rdOf (0 : Nat) t140 (ji15)) (rdOf (0 : Nat) t140 x7_1) t146 _ A19.out).mono ?_); rintro e w' ⟨rfl, ⟨nd, rfl⟩⟩; (try first | exact ⟨rfl, _, World.drewN_drewN _ _ _⟩ | exact ⟨rfl, _, Eq.trans (World.drewN_drewN _ _ _) (congrArg (World.drewN _) (Nat.add_assoc _ _ _))⟩))))
          go_roundg k1
          case measure => have := HK1.out; omega
          case rel => exact ⟨(wrap64 (x7_1 + 1)), kr, H', ⟨by have := HK1.out; omega⟩, ⟨kR HO_5⟩, ⟨kR HO_6⟩, ⟨kB0 HB⟩⟩
        ·rw [if_neg c18] at H
         exact absurd H (by simp)
       ·rw [if_neg c17] at H
        exact absurd H (by simp)
      ·rw [if_neg c16] at H
       exact absurd H (by simp)
     ·rw [if_neg c14] at H
      have c14b0 : decide (x7_1 < (t140.length : Int)) = false := decide_eq_false c14
      clear c14
      replace H := Option.bind_eq_some_iff.mp H
      obtain ⟨t147, A210, H⟩ := H
      replace H : (thicketlaw06_OrderSorts.l1 k1 a1 t137 t140 t147 0 0) = some r := H
      have A21 := Aside0.mk A210
      clear A210
      have H' := Aside0.mk H
      clear H
      go_wp2_with (first | (go_at_call 11; (with_reducible refine (order_Distinct.calls _ _ t137 t147 _ ?side1 ?side2 A21.out).mono ?_); (case side1 => repeat (first | exact (Kd.R_reads' HO_5.out).2.2 | (with_reducible refine Kd.C_alloc ?_ _) | (with_reducible refine Kd.C_drewN ?_ _) | (with_reducible refine Kd.C_drew ?_))); (case side2 => exact (Kd.R_reads' HO_5.out).2.1); rintro e w22 ⟨v148, rfl, ho0, hb⟩; have n0_ := Aside0.mk (Kd.R_elder' (kR HO_5) (Kd.R_base ho0) hb); have n1_ := Aside0.mk (Kd.R_elder' (kR HO_6) (Kd.R_base ho0) hb); have n2_ := Aside0.mk (Kd.R_lower (Kd.R_new' (Kd.R_new' ho0 (Kd.R_lt (kR HO_5))) (Kd.R_lt (kR HO_6))) (below_size (kB0 HB))); have n3_ := Aside0.mk (below_step (kB0 HB) hb); clear HO_5; clear HO_6; clear HB; have HO_5 := n0_; have HO_6 := n1_; have HO149 := n2_; have HB := n3_; clear n0_ n1_ n2_ n3_; (try clear hb); (try clear hb2); (try clear hk); (try clear hi); (try clear ho0)))
      repeat (go_quiet (first | (go_at_call 11; (with_reducible refine (order_Distinct.calls _ _ t137 t147 _ ?side1 ?side2 A21.out).mono ?_); (case side1 => repeat (first | exact (Kd.R_reads' HO_5.out).2.2 | (with_reducible refine Kd.C_alloc ?_ _) | (with_reducible refine Kd.C_drewN ?_ _) | (with_reducible refine Kd.C_drew ?_))); (case side2 => exact (Kd.R_reads' HO_5.out).2.1); rintro e w22 ⟨v148, rfl, ho0, hb⟩; have n0_ := Aside0.mk (Kd.R_elder' (kR HO_5) (Kd.R_base ho0) hb); have n1_ := Aside0.mk (Kd.R_elder' (kR HO_6) (Kd.R_base ho0) hb); have n2_ := Aside0.mk (Kd.R_lower (Kd.R_new' (Kd.R_new' ho0 (Kd.R_lt (kR HO_5))) (Kd.R_lt (kR HO_6))) (below_size (kB0 HB))); have n3_ := Aside0.mk (below_step (kB0 HB) hb); clear HO_5; clear HO_6; clear HB; have HO_5 := n0_; have HO_6 := n1_; have HO149 := n2_; have HB := n3_; clear n0_ n1_ n2_ n3_; (try clear hb); (try clear hb2); (try clear hk); (try clear hi); (try clear ho0))); try go_wp2_with (first | (go_at_call 11; (with_reducible refine (order_Distinct.calls _ _ t137 t147 _ ?side1 ?side2 A21.out).mono ?_); (case side1 => repeat (first | exact (Kd.R_reads' HO_5.out).2.2 | (with_reducible refine Kd.C_alloc ?_ _) | (with_reducible refine Kd.C_drewN ?_ _) | (with_reducible refine Kd.C_drew ?_))); (case side2 => exact (Kd.R_reads' HO_5.out).2.1); rintro e w22 ⟨v148, rfl, ho0, hb⟩; have n0_ := Aside0.mk (Kd.R_elder' (kR HO_5) (Kd.R_base ho0) hb); have n1_ := Aside0.mk (Kd.R_elder' (kR HO_6) (Kd.R_base ho0) hb); have n2_ := Aside0.mk (Kd.R_lower (Kd.R_new' (Kd.R_new' ho0 (Kd.R_lt (kR HO_5))) (Kd.R_lt (kR HO_6))) (below_size (kB0 HB))); have n3_ := Aside0.mk (below_step (kB0 HB) hb); clear HO_5; clear HO_6; clear HB; have HO_5 := n0_; have HO_6 := n1_; have HO149 := n2_; have HB := n3_; clear n0_ n1_ n2_ n3_; (try clear hb); (try clear hb2); (try clear hk); (try clear hi); (try clear ho0))))
      go_loopg [9, 10] k1 (fun kq v9 v10 w' => ∃ (x9_2 : Int) (x10_2 : Int), v9 = .int .i64 x9_2 ∧ v10 = .int .i64 x10_2 ∧ Aside0 (thicketlaw06_OrderSorts.l1 kq a1 t137 t140 t147 x9_2 x10_2 = some r) ∧ Aside0 (kq ≤ k1) ∧ Aside0 (Kd.R Kd.f64 26 w' w.heap.size (fun k_ => some k_ ≠ ((.slice Ao12 t140.length co12) : Value).ownBlock ∧ some k_ ≠ (v148 : Value).ownBlock) (.slice Ao10 t137.length co10) t137) ∧ Aside0 (Kd.R Kd.f64 26 w' w.heap.size (fun k_ => some k_ ≠ ((.slice Ao10 t137.length co10) : Value).ownBlock ∧ some k_ ≠ (v148 : Value).ownBlock) (.slice Ao12 t140.length co12) t140) ∧ Aside0 (Kd.R Kd.f64 26 w' w.heap.size (fun k_ => some k_ ≠ ((.slice Ao10 t137.length co10) : Value).ownBlock ∧ some k_ ≠ ((.slice Ao12 t140.length co12) : Value).ownBlock) v148 t147) ∧ Aside0 (Below w.heap.size w w'))
      case atStart => exact ⟨(0), (0), kr, kr, H', ⟨Nat.le_refl _⟩, ⟨kR HO_5⟩, ⟨kR HO_6⟩, ⟨by (with_reducible repeat (first | apply Kd.R_alloc | apply Kd.R_drewN | apply Kd.R_drew)); exact Kd.R_mono HO149.out (fun _ hk => ⟨hk.1.2, hk.2⟩)⟩, ⟨kB0 HB⟩⟩
      case round =>
       clear H'
       try clear c1
       try clear p1
       try clear q1
       try clear hx1
       try clear c2
       try clear p2
       try clear c4
       try clear p6
       try clear c8
       try clear c14
       try clear c14b0
       try clear p14
       try clear q14
       try clear hx14
       try clear c16
       try clear c16b0
       try clear c17
       try clear c17b0
       try clear c18
       try clear c18b0
       try clear c20
       try clear c20b0
       try clear hx144_0
       try clear hx145_0
       try clear p144
       try clear p145
       try clear q144
       try clear q145
       obtain ⟨x9_2, x10_2, rfl, rfl, HA, HK2, HO_5, HO_6, HO_8, HB⟩ := hrel
       cases gk with
       | zero => exact absurd HA.out (by simp [thicketlaw06_OrderSorts.l1])
       | succ k2 =>
        have H := HA.out
        clear HA
        simp only [thicketlaw06_OrderSorts.l1] at H
        by_cases c23 : x10_2 < (t140.length : Int)
        ·rw [if_pos c23] at H
         have c23b0 : decide (x10_2 < (t140.length : Int)) = true := decide_eq_true c23
         clear c23
         have HC24 := Aside0.mk H
         clear H
         go_upto_region 17 with (fail)
         repeat (go_quiet (fail); go_upto_region 17 with (fail))
         go_cut [73] (fun v73 wc => ∃ (kq : Nat) (x73_23 : Bool), v73 = .bool x73_23 ∧ Aside0 (thicketlaw06_OrderSorts.j2 kq a1 t137 t140 t147 x9_2 x10_2 x73_23 = some r) ∧ Aside0 (kq ≤ k2) ∧ Aside0 (Kd.R Kd.f64 26 wc w.heap.size (fun k_ => some k_ ≠ ((.slice Ao12 t140.length co12) : Value).ownBlock ∧ some k_ ≠ (v148 : Value).ownBlock) (.slice Ao10 t137.length co10) t137) ∧ Aside0 (Kd.R Kd.f64 26 wc w.heap.size (fun k_ => some k_ ≠ ((.slice Ao10 t137.length co10) : Value).ownBlock ∧ some k_ ≠ (v148 : Value).ownBlock) (.slice Ao12 t140.length co12) t140) ∧ Aside0 (Kd.R Kd.f64 26 wc w.heap.size (fun k_ => some k_ ≠ ((.slice Ao10 t137.length co10) : Value).ownBlock ∧ some k_ ≠ ((.slice Ao12 t140.length co12) : Value).ownBlock) v148 t147) ∧ Aside0 (Below w.heap.size w wc))
         case first =>
          have H := HC24.out
          clear HC24
          by_cases c25 : 0 ≤ x10_2
          ·rw [if_pos c25] at H
           have c25b0 : decide (0 ≤ x10_2) = true := decide_eq_true c25
           clear c25
           (first | rw [c25b0] | (simp only [i64_w, i32_w]; rw [c25b0]) | skip)
           by_cases c26 : ((feq (rdOf (0 : Nat) t140 x10_2) (rdOf (0 : Nat) t140 x10_2)) = true)
           ·rw [if_pos c26] at H
            have c26b0 : (feq (rdOf (0 : Nat) t140 x10_2) (rdOf (0 : Nat) t140 x10_2)) = true := c26
            clear c26
            by_cases c27 : x10_2 > 0
            ·rw [if_pos c27] at H
             have c27b0 : decide (0 < x10_2) = true := decide_eq_true c27
             clear c27
             obtain ⟨ji28, hji28⟩ : ∃ j_ : Int, (wrap64 (x10_2 - 1)) = j_ := ⟨_, rfl⟩
             replace H : (if 0 ≤ (ji28) then (if (ji28) < (t140.length : Int) then (thicketlaw06_OrderSorts.j2 k2 a1 t137 t140 t147 x9_2 x10_2 (feq (rdOf (0 : Nat) t140 x10_2) (rdOf (0 : Nat) t140 (ji28)))) else (none)) else (none)) = some r := by first | (rw [hji28] at H; exact H) | (simp only [hji28] at H ⊢; exact H)
             have hji28w : (IntKind.i64.wrap (x10_2 - 1)) = ji28 := (i64_w _).trans hji28
             by_cases c29 : 0 ≤ (ji28)
             ·rw [if_pos c29] at H
              have c29b0 : decide (0 ≤ (ji28)) = true := decide_eq_true c29
              clear c29
              by_cases c30 : (ji28) < (t140.length : Int)
              ·rw [if_pos c30] at H
               have c30b0 : decide ((ji28) < (t140.length : Int)) = true := decide_eq_true c30
               clear c30
               have H' := Aside0.mk H
               clear H
               have p150 : 0 ≤ (x10_2 : Int) := of_decide_eq_true ka
               have q150 : x10_2 < (t140.length : Int) := of_decide_eq_true ka
               obtain ⟨ad150, e150, hx150_0⟩ := Kd.at_f64 (Kd.R_reads' HO_6.out).2.2 x10_2 p150 q150
               cases e150
               replace p150 := eq_true p150
               replace q150 := eq_true q150
               have p151 : 0 ≤ (x10_2 : Int) := of_decide_eq_true ka
               have q151 : x10_2 < (t140.length : Int) := of_decide_eq_true ka
               obtain ⟨ad151, e151, hx151_0⟩ := Kd.at_f64 (Kd.R_reads' HO_6.out).2.2 x10_2 p151 q151
               obtain rfl : ad150 = ad151 := (by injection e151)
               replace p151 := eq_true p151
               replace q151 := eq_true q151
               have p152 : 0 ≤ (x10_2 : Int) := of_decide_eq_true ka
               have q152 : x10_2 < (t140.length : Int) := of_decide_eq_true ka
               obtain ⟨ad152, e152, hx152_0⟩ := Kd.at_f64 (Kd.R_reads' HO_6.out).2.2 x10_2 p152 q152
               obtain rfl : ad150 = ad152 := (by injection e152)
               replace p152 := eq_true p152
               replace q152 := eq_true q152
               have p153 : 0 ≤ ((ji28) : Int) := of_decide_eq_true ka
               have q153 : (ji28) < (t140.length : Int) := of_decide_eq_true ka
               obtain ⟨ad153, e153, hx153_0⟩ := Kd.at_f64 (Kd.R_reads' HO_6.out).2.2 (ji28) p153 q153
               obtain rfl : ad150 = ad153 := (by injection e153)
               replace p153 := eq_true p153
               replace q153 := eq_true q153
               go_wp2
               repeat (go_quiet (fail); try go_wp2)
               go_meet
               case rel => exact ⟨_, ((feq (rdOf (0 : Nat) t140 x10_2) (rdOf (0 : Nat) t140 (ji28)))), (by first | rfl | (simp; done) | (simp only [← hji28] <;> (first | rfl | simp)) | (simp [*]; done)), H', ⟨by have := HK1.out; have := HK2.out; first | omega | exact Nat.le_refl _⟩, ⟨kR HO_5⟩, ⟨kR HO_6⟩, ⟨kR HO_8⟩, ⟨kB0 HB⟩⟩
              ·rw [if_neg c30] at H
               exact absurd H (by simp)
             ·rw [if_neg c29] at H
              exact absurd H (by simp)
            ·rw [if_neg c27] at H
             have c27b0 : decide (0 < x10_2) = false := decide_eq_false c27
             clear c27
             have H' := Aside0.mk H
             clear H
             have p150 : 0 ≤ (x10_2 : Int) := of_decide_eq_true ka
             have q150 : x10_2 < (t140.length : Int) := of_decide_eq_true ka
             obtain ⟨ad150, e150, hx150_0⟩ := Kd.at_f64 (Kd.R_reads' HO_6.out).2.2 x10_2 p150 q150
             cases e150
             replace p150 := eq_true p150
             replace q150 := eq_true q150
             have p151 : 0 ≤ (x10_2 : Int) := of_decide_eq_true ka
             have q151 : x10_2 < (t140.length : Int) := of_decide_eq_true ka
             obtain ⟨ad151, e151, hx151_0⟩ := Kd.at_f64 (Kd.R_reads' HO_6.out).2.2 x10_2 p151 q151
             obtain rfl : ad150 = ad151 := (by injection e151)
             replace p151 := eq_true p151
             replace q151 := eq_true q151
             go_wp2
             repeat (go_quiet (fail); try go_wp2)
             go_meet
             case rel => exact ⟨_, (false), kr, H', ⟨by have := HK1.out; have := HK2.out; first | omega | exact Nat.le_refl _⟩, ⟨kR HO_5⟩, ⟨kR HO_6⟩, ⟨kR HO_8⟩, ⟨kB0 HB⟩⟩
           ·rw [if_neg c26] at H
            have c26b0 : (feq (rdOf (0 : Nat) t140 x10_2) (rdOf (0 : Nat) t140 x10_2)) = false := by simpa using c26
            clear c26
            have H' := Aside0.mk H
            clear H
            have p150 : 0 ≤ (x10_2 : Int) := of_decide_eq_true ka
            have q150 : x10_2 < (t140.length : Int) := of_decide_eq_true ka
            obtain ⟨ad150, e150, hx150_0⟩ := Kd.at_f64 (Kd.R_reads' HO_6.out).2.2 x10_2 p150 q150
            cases e150
            replace p150 := eq_true p150
            replace q150 := eq_true q150
            have p151 : 0 ≤ (x10_2 : Int) := of_decide_eq_true ka
            have q151 : x10_2 < (t140.length : Int) := of_decide_eq_true ka
            obtain ⟨ad151, e151, hx151_0⟩ := Kd.at_f64 (Kd.R_reads' HO_6.out).2.2 x10_2 p151 q151
            obtain rfl : ad150 = ad151 := (by injection e151)
            replace p151 := eq_true p151
            replace q151 := eq_true q151
            go_wp2
            repeat (go_quiet (fail); try go_wp2)
            go_meet
            case rel => exact ⟨_, (true), kr, H', ⟨by have := HK1.out; have := HK2.out; first | omega | exact Nat.le_refl _⟩, ⟨kR HO_5⟩, ⟨kR HO_6⟩, ⟨kR HO_8⟩, ⟨kB0 HB⟩⟩
          ·rw [if_neg c25] at H
           exact absurd H (by simp)
         case rest =>
          clear HC24
          try clear c1
          try clear p1
          try clear q1
          try clear hx1
          try clear c2
          try clear p2
          try clear c3
          try clear c4
          try clear p6
          try clear c8
          try clear c14
          try clear c14b0
          try clear p14
          try clear q14
          try clear hx14
          try clear p15
          try clear q15
          try clear hx15
          try clear c16
          try clear c16b0
          try clear c17
          try clear c17b0
          try clear c18
          try clear c18b0
          try clear c20
          try clear c20b0
          try clear c23
          try clear c23b0
          try clear c25
          try clear c25b0
          try clear c26
          try clear c26b0
          try clear c27
          try clear c27b0
          try clear c29
          try clear c29b0
          try clear c30
          try clear c30b0
          try clear hx144_0
          try clear hx145_0
          try clear hx150_0
          try clear hx151_0
          try clear hx152_0
          try clear hx153_0
          try clear p144
          try clear p145
          try clear p150
          try clear p151
          try clear p152
          try clear p153
          try clear q144
          try clear q145
          try clear q150
          try clear q151
          try clear q152
          try clear q153
          obtain ⟨kq, x73_23, rfl, HA, HJ23, HO_5, HO_6, HO_8, HB⟩ := hcut
          cases kq with
          | zero => exact absurd HA.out (by simp [thicketlaw06_OrderSorts.j2])
          | succ kj23 =>
           have H := HA.out
           clear HA
           simp only [thicketlaw06_OrderSorts.j2] at H
           by_cases c31 : x73_23 = true
           ·subst c31
            have H1 : (thicketlaw06_OrderSorts.l1 kj23 a1 t137 t140 t147 x9_2 (wrap64 (x10_2 + 1))) = some r := by rw [if_pos rfl] at H; exact H
            clear H
            have H := H1
            clear H1
            have H' := Aside0.mk H
            clear H
            go_wp2
            repeat (go_quiet (fail); try go_wp2)
            go_roundg kj23
            case measure => have := HK1.out; have := HK2.out; have := HJ23.out; omega
            case rel => exact ⟨(x9_2), (wrap64 (x10_2 + 1)), kr, kr, H', ⟨by have := HK1.out; have := HK2.out; have := HJ23.out; omega⟩, ⟨kR HO_5⟩, ⟨kR HO_6⟩, ⟨kR HO_8⟩, ⟨kB0 HB⟩⟩
           ·replace c31 := Bool.eq_false_iff.mpr c31
            subst c31
            have H1 : (if x9_2 = (t147.length : Int) then (some false) else (if 0 ≤ x9_2 then (if x9_2 < (t147.length : Int) then (if 0 ≤ x10_2 then (if x10_2 < (t140.length : Int) then (if ((feq (rdOf (0 : Nat) t147 x9_2) (rdOf (0 : Nat) t140 x10_2)) = true) then (if (feq (rdOf (0 : Nat) t147 x9_2) 0) = true then ((math_Signbit.f (rdOf (0 : Nat) t147 x9_2)).bind fun t158 => (if t158 = true then (some false) else (thicketlaw06_OrderSorts.l1 kj23 a1 t137 t140 t147 (wrap64 (x9_2 + 1)) (wrap64 (x10_2 + 1))))) else (thicketlaw06_OrderSorts.l1 kj23 a1 t137 t140 t147 (wrap64 (x9_2 + 1)) (wrap64 (x10_2 + 1)))) else (some false)) else (none)) else (none)) else (none)) else (none))) = some r := by rw [if_neg (show ¬ (false = true) by decide)] at H; exact H
            clear H
            have H := H1
            clear H1
            by_cases c32 : x9_2 = (t147.length : Int)
            ·rw [if_pos c32] at H
             have c32b0 : (x9_2 == (t147.length : Int)) = true := beq_iff_eq.mpr c32
             have c32b1 : (x9_2 != (t147.length : Int)) = false := bne_eq_false_iff_eq.mpr c32
             clear c32
             obtain rfl := Option.some.inj H
             obtain ⟨Ao33, co33, eo33⟩ := Kd.R_slice HO_8.out
             subst eo33
             go_wp2
             repeat (go_quiet (fail); try go_wp2)
             go_ret
             exact ⟨by first | rfl | (simp [errW_none, errW_some] <;> rfl) | (simp [*, errW_none, errW_some] <;> rfl), kB0 HB⟩
            ·rw [if_neg c32] at H
             have c32b0 : (x9_2 == (t147.length : Int)) = false := beq_eq_false_iff_ne.mpr c32
             have c32b1 : (x9_2 != (t147.length : Int)) = true := bne_iff_ne.mpr c32
             by_cases c34 : 0 ≤ x9_2
             ·rw [if_pos c34] at H
              have c34b0 : decide (0 ≤ x9_2) = true := decide_eq_true c34
              clear c34
              by_cases c35 : x9_2 < (t147.length : Int)
              ·rw [if_pos c35] at H
               have c35b0 : decide (x9_2 < (t147.length : Int)) = true := decide_eq_true c35
               clear c35
               by_cases c36 : 0 ≤ x10_2
               ·rw [if_pos c36] at H
                have c36b0 : decide (0 ≤ x10_2) = true := decide_eq_true c36
                clear c36
                by_cases c37 : x10_2 < (t140.length : Int)
                ·rw [if_pos c37] at H
                 have c37b0 : decide (x10_2 < (t140.length : Int)) = true := decide_eq_true c37
                 clear c37
                 by_cases c38 : ((feq (rdOf (0 : Nat) t147 x9_2) (rdOf (0 : Nat) t140 x10_2)) = true)
                 ·rw [if_pos c38] at H
                  have c38b0 : (feq (rdOf (0 : Nat) t147 x9_2) (rdOf (0 : Nat) t140 x10_2)) = true := c38
                  clear c38
                  by_cases c39 : (feq (rdOf (0 : Nat) t147 x9_2) 0) = true
                  ·rw [if_pos c39] at H
                   have c39b0 : (feq (rdOf (0 : Nat) t147 x9_2) 0) = true := c39
                   clear c39
                   replace H := Option.bind_eq_some_iff.mp H
                   obtain ⟨t158, A400, H⟩ := H
                   replace H : (if t158 = true then (some false) else (thicketlaw06_OrderSorts.l1 kj23 a1 t137 t140 t147 (wrap64 (x9_2 + 1)) (wrap64 (x10_2 + 1)))) = some r := H
                   have A40 := Aside0.mk A400
                   clear A400
                   by_cases c41 : t158 = true
                   ·subst c41
                    have H1 : (some false) = some r := by rw [if_pos rfl] at H; exact H
                    clear H
                    have H := H1
                    clear H1
                    obtain rfl := Option.some.inj H
                    obtain ⟨Ao42, co42, eo42⟩ := Kd.R_slice HO_8.out
                    subst eo42
                    have p154 : 0 ≤ (x9_2 : Int) := of_decide_eq_true ka
                    have q154 : x9_2 < (t147.length : Int) := of_decide_eq_true ka
                    obtain ⟨ad154, e154, hx154_0⟩ := Kd.at_f64 (Kd.R_reads' HO_8.out).2.2 x9_2 p154 q154
                    cases e154
                    replace p154 := eq_true p154
                    replace q154 := eq_true q154
                    have p155 : 0 ≤ (x10_2 : Int) := of_decide_eq_true ka
                    have q155 : x10_2 < (t140.length : Int) := of_decide_eq_true ka
                    obtain ⟨ad155, e155, hx155_0⟩ := Kd.at_f64 (Kd.R_reads' HO_6.out).2.2 x10_2 p155 q155
                    cases e155
                    replace p155 := eq_true p155
                    replace q155 := eq_true q155
                    have p156 : 0 ≤ (x9_2 : Int) := of_decide_eq_true ka
                    have q156 : x9_2 < (t147.length : Int) := of_decide_eq_true ka
                    obtain ⟨ad156, e156, hx156_0⟩ := Kd.at_f64 (Kd.R_reads' HO_8.out).2.2 x9_2 p156 q156
                    obtain rfl : ad154 = ad156 := (by injection e156)
                    replace p156 := eq_true p156
                    replace q156 := eq_true q156
                    have p157 : 0 ≤ (x9_2 : Int) := of_decide_eq_true ka
                    have q157 : x9_2 < (t147.length : Int) := of_decide_eq_true ka
                    obtain ⟨ad157, e157, hx157_0⟩ := Kd.at_f64 (Kd.R_reads' HO_8.out).2.2 x9_2 p157 q157
                    obtain rfl : ad154 = ad157 := (by injection e157)
                    replace p157 := eq_true p157
                    replace q157 := eq_true q157
                    go_wp2_with (first | (go_at_call 18; (with_reducible refine (math_Signbit.calls (rdOf (0 : Nat) t147 x9_2) true _ A40.out).mono ?_); rintro e w' ⟨rfl, ⟨nd, rfl⟩⟩; (try first | exact ⟨rfl, _, World.drewN_drewN _ _ _⟩ | exact ⟨rfl, _, Eq.trans (World.drewN_drewN _ _ _) (congrArg (World.drewN _) (Nat.add_assoc _ _ _))⟩)))
                    repeat (go_quiet (first | (go_at_call 18; (with_reducible refine (math_Signbit.calls (rdOf (0 : Nat) t147 x9_2) true _ A40.out).mono ?_); rintro e w' ⟨rfl, ⟨nd, rfl⟩⟩; (try first | exact ⟨rfl, _, World.drewN_drewN _ _ _⟩ | exact ⟨rfl, _, Eq.trans (World.drewN_drewN _ _ _) (congrArg (World.drewN _) (Nat.add_assoc _ _ _))⟩))); try go_wp2_with (first | (go_at_call 18; (with_reducible refine (math_Signbit.calls (rdOf (0 : Nat) t147 x9_2) true _ A40.out).mono ?_); rintro e w' ⟨rfl, ⟨nd, rfl⟩⟩; (try first | exact ⟨rfl, _, World.drewN_drewN _ _ _⟩ | exact ⟨rfl, _, Eq.trans (World.drewN_drewN _ _ _) (congrArg (World.drewN _) (Nat.add_assoc _ _ _))⟩))))
                    go_ret
                    exact ⟨by first | rfl | (simp [errW_none, errW_some] <;> rfl) | (simp [*, errW_none, errW_some] <;> rfl), kB0 HB⟩
                   ·replace c41 := Bool.eq_false_iff.mpr c41
                    subst c41
                    have H1 : (thicketlaw06_OrderSorts.l1 kj23 a1 t137 t140 t147 (wrap64 (x9_2 + 1)) (wrap64 (x10_2 + 1))) = some r := by rw [if_neg (show ¬ (false = true) by decide)] at H; exact H
                    clear H
                    have H := H1
                    clear H1
                    have H' := Aside0.mk H
                    clear H
                    obtain ⟨Ao43, co43, eo43⟩ := Kd.R_slice HO_8.out
                    subst eo43
                    have p154 : 0 ≤ (x9_2 : Int) := of_decide_eq_true ka
                    have q154 : x9_2 < (t147.length : Int) := of_decide_eq_true ka
                    obtain ⟨ad154, e154, hx154_0⟩ := Kd.at_f64 (Kd.R_reads' HO_8.out).2.2 x9_2 p154 q154
                    cases e154
                    replace p154 := eq_true p154
                    replace q154 := eq_true q154
                    have p155 : 0 ≤ (x10_2 : Int) := of_decide_eq_true ka
                    have q155 : x10_2 < (t140.length : Int) := of_decide_eq_true ka
                    obtain ⟨ad155, e155, hx155_0⟩ := Kd.at_f64 (Kd.R_reads' HO_6.out).2.2 x10_2 p155 q155
                    cases e155
                    replace p155 := eq_true p155
                    replace q155 := eq_true q155
                    have p156 : 0 ≤ (x9_2 : Int) := of_decide_eq_true ka
                    have q156 : x9_2 < (t147.length : Int) := of_decide_eq_true ka
                    obtain ⟨ad156, e156, hx156_0⟩ := Kd.at_f64 (Kd.R_reads' HO_8.out).2.2 x9_2 p156 q156
                    obtain rfl : ad154 = ad156 := (by injection e156)
                    replace p156 := eq_true p156
                    replace q156 := eq_true q156
                    have p157 : 0 ≤ (x9_2 : Int) := of_decide_eq_true ka
                    have q157 : x9_2 < (t147.length : Int) := of_decide_eq_true ka
                    obtain ⟨ad157, e157, hx157_0⟩ := Kd.at_f64 (Kd.R_reads' HO_8.out).2.2 x9_2 p157 q157
                    obtain rfl : ad154 = ad157 := (by injection e157)
                    replace p157 := eq_true p157
                    replace q157 := eq_true q157
                    go_wp2_with (first | (go_at_call 18; (with_reducible refine (math_Signbit.calls (rdOf (0 : Nat) t147 x9_2) false _ A40.out).mono ?_); rintro e w' ⟨rfl, ⟨nd, rfl⟩⟩; (try first | exact ⟨rfl, _, World.drewN_drewN _ _ _⟩ | exact ⟨rfl, _, Eq.trans (World.drewN_drewN _ _ _) (congrArg (World.drewN _) (Nat.add_assoc _ _ _))⟩)))
                    repeat (go_quiet (first | (go_at_call 18; (with_reducible refine (math_Signbit.calls (rdOf (0 : Nat) t147 x9_2) false _ A40.out).mono ?_); rintro e w' ⟨rfl, ⟨nd, rfl⟩⟩; (try first | exact ⟨rfl, _, World.drewN_drewN _ _ _⟩ | exact ⟨rfl, _, Eq.trans (World.drewN_drewN _ _ _) (congrArg (World.drewN _) (Nat.add_assoc _ _ _))⟩))); try go_wp2_with (first | (go_at_call 18; (with_reducible refine (math_Signbit.calls (rdOf (0 : Nat) t147 x9_2) false _ A40.out).mono ?_); rintro e w' ⟨rfl, ⟨nd, rfl⟩⟩; (try first | exact ⟨rfl, _, World.drewN_drewN _ _ _⟩ | exact ⟨rfl, _, Eq.trans (World.drewN_drewN _ _ _) (congrArg (World.drewN _) (Nat.add_assoc _ _ _))⟩))))
                    go_roundg kj23
                    case measure => have := HK1.out; have := HK2.out; have := HJ23.out; omega
                    case rel => exact ⟨(wrap64 (x9_2 + 1)), (wrap64 (x10_2 + 1)), kr, kr, H', ⟨by have := HK1.out; have := HK2.out; have := HJ23.out; omega⟩, ⟨kR HO_5⟩, ⟨kR HO_6⟩, ⟨kR HO_8⟩, ⟨kB0 HB⟩⟩
                  ·rw [if_neg c39] at H
                   have c39b0 : (feq (rdOf (0 : Nat) t147 x9_2) 0) = false := by simpa using c39
                   clear c39
                   have H' := Aside0.mk H
                   clear H
                   obtain ⟨Ao44, co44, eo44⟩ := Kd.R_slice HO_8.out
                   subst eo44
                   have p154 : 0 ≤ (x9_2 : Int) := of_decide_eq_true ka
                   have q154 : x9_2 < (t147.length : Int) := of_decide_eq_true ka
                   obtain ⟨ad154, e154, hx154_0⟩ := Kd.at_f64 (Kd.R_reads' HO_8.out).2.2 x9_2 p154 q154
                   cases e154
                   replace p154 := eq_true p154
                   replace q154 := eq_true q154
                   have p155 : 0 ≤ (x10_2 : Int) := of_decide_eq_true ka
                   have q155 : x10_2 < (t140.length : Int) := of_decide_eq_true ka
                   obtain ⟨ad155, e155, hx155_0⟩ := Kd.at_f64 (Kd.R_reads' HO_6.out).2.2 x10_2 p155 q155
                   cases e155
                   replace p155 := eq_true p155
                   replace q155 := eq_true q155
                   have p156 : 0 ≤ (x9_2 : Int) := of_decide_eq_true ka
                   have q156 : x9_2 < (t147.length : Int) := of_decide_eq_true ka
                   obtain ⟨ad156, e156, hx156_0⟩ := Kd.at_f64 (Kd.R_reads' HO_8.out).2.2 x9_2 p156 q156
                   obtain rfl : ad154 = ad156 := (by injection e156)
                   replace p156 := eq_true p156
                   replace q156 := eq_true q156
                   go_wp2
                   repeat (go_quiet (fail); try go_wp2)
                   go_roundg kj23
                   case measure => have := HK1.out; have := HK2.out; have := HJ23.out; omega
                   case rel => exact ⟨(wrap64 (x9_2 + 1)), (wrap64 (x10_2 + 1)), kr, kr, H', ⟨by have := HK1.out; have := HK2.out; have := HJ23.out; omega⟩, ⟨kR HO_5⟩, ⟨kR HO_6⟩, ⟨kR HO_8⟩, ⟨kB0 HB⟩⟩
                 ·rw [if_neg c38] at H
                  have c38b0 : (feq (rdOf (0 : Nat) t147 x9_2) (rdOf (0 : Nat) t140 x10_2)) = false := by simpa using c38
                  clear c38
                  obtain rfl := Option.some.inj H
                  obtain ⟨Ao45, co45, eo45⟩ := Kd.R_slice HO_8.out
                  subst eo45
                  have p154 : 0 ≤ (x9_2 : Int) := of_decide_eq_true ka
                  have q154 : x9_2 < (t147.length : Int) := of_decide_eq_true ka
                  obtain ⟨ad154, e154, hx154_0⟩ := Kd.at_f64 (Kd.R_reads' HO_8.out).2.2 x9_2 p154 q154
                  cases e154
                  replace p154 := eq_true p154
                  replace q154 := eq_true q154
                  have p155 : 0 ≤ (x10_2 : Int) := of_decide_eq_true ka
                  have q155 : x10_2 < (t140.length : Int) := of_decide_eq_true ka
                  obtain ⟨ad155, e155, hx155_0⟩ := Kd.at_f64 (Kd.R_reads' HO_6.out).2.2 x10_2 p155 q155
                  cases e155
                  replace p155 := eq_true p155
                  replace q155 := eq_true q155
                  go_wp2
                  repeat (go_quiet (fail); try go_wp2)
                  go_ret
                  exact ⟨by first | rfl | (simp [errW_none, errW_some] <;> rfl) | (simp [*, errW_none, errW_some] <;> rfl), kB0 HB⟩
                ·rw [if_neg c37] at H
                 exact absurd H (by simp)
               ·rw [if_neg c36] at H
                exact absurd H (by simp)
              ·rw [if_neg c35] at H
               exact absurd H (by simp)
             ·rw [if_neg c34] at H
              exact absurd H (by simp)
        ·rw [if_neg c23] at H
         have c23b0 : decide (x10_2 < (t140.length : Int)) = false := decide_eq_false c23
         clear c23
         replace H := Option.bind_eq_some_iff.mp H
         obtain ⟨t159, A460, H⟩ := H
         replace H : (if x9_2 = (t147.length : Int) then (if t159 < 0 then (thicketlaw06_OrderSorts.j3 k2 t140 (f64from a1) t159 true) else (if t159 > (t140.length : Int) then (thicketlaw06_OrderSorts.j3 k2 t140 (f64from a1) t159 true) else ((order_Below.f k2 t137 (f64from a1)).bind fun t160 => (thicketlaw06_OrderSorts.j3 k2 t140 (f64from a1) t159 (t160 != t159))))) else (thicketlaw06_OrderSorts.j3 k2 t140 (f64from a1) t159 true)) = some r := H
         have A46 := Aside0.mk A460
         clear A460
         have HC47 := Aside0.mk H
         clear H
         go_upto_region 23 with (first | (go_at_call 13; (with_reducible refine (order_Below.calls k2 _ _ t140 (f64from a1) t159 _ ?side1 ?side2 A46.out).mono ?_); (case side1 => repeat (first | exact (Kd.R_reads' HO_6.out).2.2 | (with_reducible refine Kd.C_alloc ?_ _) | (with_reducible refine Kd.C_drewN ?_ _) | (with_reducible refine Kd.C_drew ?_))); (case side2 => exact (Kd.R_reads' HO_6.out).2.1); rintro e w' ⟨rfl, ⟨nd, rfl⟩⟩; (try first | exact ⟨rfl, _, World.drewN_drewN _ _ _⟩ | exact ⟨rfl, _, Eq.trans (World.drewN_drewN _ _ _) (congrArg (World.drewN _) (Nat.add_assoc _ _ _))⟩)))
         repeat (go_quiet (first | (go_at_call 13; (with_reducible refine (order_Below.calls k2 _ _ t140 (f64from a1) t159 _ ?side1 ?side2 A46.out).mono ?_); (case side1 => repeat (first | exact (Kd.R_reads' HO_6.out).2.2 | (with_reducible refine Kd.C_alloc ?_ _) | (with_reducible refine Kd.C_drewN ?_ _) | (with_reducible refine Kd.C_drew ?_))); (case side2 => exact (Kd.R_reads' HO_6.out).2.1); rintro e w' ⟨rfl, ⟨nd, rfl⟩⟩; (try first | exact ⟨rfl, _, World.drewN_drewN _ _ _⟩ | exact ⟨rfl, _, Eq.trans (World.drewN_drewN _ _ _) (congrArg (World.drewN _) (Nat.add_assoc _ _ _))⟩))); go_upto_region 23 with (first | (go_at_call 13; (with_reducible refine (order_Below.calls k2 _ _ t140 (f64from a1) t159 _ ?side1 ?side2 A46.out).mono ?_); (case side1 => repeat (first | exact (Kd.R_reads' HO_6.out).2.2 | (with_reducible refine Kd.C_alloc ?_ _) | (with_reducible refine Kd.C_drewN ?_ _) | (with_reducible refine Kd.C_drew ?_))); (case side2 => exact (Kd.R_reads' HO_6.out).2.1); rintro e w' ⟨rfl, ⟨nd, rfl⟩⟩; (try first | exact ⟨rfl, _, World.drewN_drewN _ _ _⟩ | exact ⟨rfl, _, Eq.trans (World.drewN_drewN _ _ _) (congrArg (World.drewN _) (Nat.add_assoc _ _ _))⟩))))
         (try simp only [Act.put, List.setIfInBounds_toArray, List.set_cons_zero, List.set_cons_succ])
         go_cut [130] (fun v130 wc => ∃ (kq : Nat) (x130_46 : Bool), v130 = .bool x130_46 ∧ Aside0 (thicketlaw06_OrderSorts.j3 kq t140 (f64from a1) t159 x130_46 = some r) ∧ Aside0 (kq ≤ k2) ∧ Aside0 (Kd.R Kd.f64 26 wc w.heap.size (fun _ => True) (.slice Ao12 t140.length co12) t140) ∧ Aside0 (Below w.heap.size w wc))
         case first =>
          have H := HC47.out
          clear HC47
          by_cases c48 : x9_2 = (t147.length : Int)
          ·rw [if_pos c48] at H
           have c48b0 : (x9_2 == (t147.length : Int)) = true := beq_iff_eq.mpr c48
           have c48b1 : (x9_2 != (t147.length : Int)) = false := bne_eq_false_iff_eq.mpr c48
           clear c48
           (first | rw [c48b0] | (simp only [i64_w, i32_w]; rw [c48b0]) | skip)
           by_cases c49 : t159 < 0
           ·rw [if_pos c49] at H
            have c49b0 : decide (t159 < 0) = true := decide_eq_true c49
            clear c49
            have H' := Aside0.mk H
            clear H
            obtain ⟨Ao50, co50, eo50⟩ := Kd.R_slice HO_8.out
            subst eo50
            go_wp2
            repeat (go_quiet (fail); try go_wp2)
            go_meet
            case rel => exact ⟨_, (true), kr, H', ⟨by have := HK1.out; have := HK2.out; first | omega | exact Nat.le_refl _⟩, ⟨by (with_reducible repeat (first | apply Kd.R_alloc | apply Kd.R_drewN | apply Kd.R_drew)); exact Kd.R_mono HO_6.out (fun _ hk => trivial)⟩, ⟨kB0 HB⟩⟩
           ·rw [if_neg c49] at H
            have c49b0 : decide (t159 < 0) = false := decide_eq_false c49
            clear c49
            by_cases c51 : t159 > (t140.length : Int)
            ·rw [if_pos c51] at H
             have c51b0 : decide ((t140.length : Int) < t159) = true := decide_eq_true c51
             clear c51
             have H' := Aside0.mk H
             clear H
             obtain ⟨Ao52, co52, eo52⟩ := Kd.R_slice HO_8.out
             subst eo52
             go_wp2
             repeat (go_quiet (fail); try go_wp2)
             go_meet
             case rel => exact ⟨_, (true), kr, H', ⟨by have := HK1.out; have := HK2.out; first | omega | exact Nat.le_refl _⟩, ⟨by (with_reducible repeat (first | apply Kd.R_alloc | apply Kd.R_drewN | apply Kd.R_drew)); exact Kd.R_mono HO_6.out (fun _ hk => trivial)⟩, ⟨kB0 HB⟩⟩
            ·rw [if_neg c51] at H
             have c51b0 : decide ((t140.length : Int) < t159) = false := decide_eq_false c51
             clear c51
             replace H := Option.bind_eq_some_iff.mp H
             obtain ⟨t160, A530, H⟩ := H
             replace H : (thicketlaw06_OrderSorts.j3 k2 t140 (f64from a1) t159 (t160 != t159)) = some r := H
             have A53 := Aside0.mk A530
             clear A530
             have H' := Aside0.mk H
             clear H
             obtain ⟨Ao54, co54, eo54⟩ := Kd.R_slice HO_8.out
             subst eo54
             go_wp2_with (first | (go_at_call 13; (with_reducible refine (order_Below.calls k2 _ _ t137 (f64from a1) t160 _ ?side1 ?side2 A53.out).mono ?_); (case side1 => repeat (first | exact (Kd.R_reads' HO_5.out).2.2 | (with_reducible refine Kd.C_alloc ?_ _) | (with_reducible refine Kd.C_drewN ?_ _) | (with_reducible refine Kd.C_drew ?_))); (case side2 => exact (Kd.R_reads' HO_5.out).2.1); rintro e w' ⟨rfl, ⟨nd, rfl⟩⟩; (try first | exact ⟨rfl, _, World.drewN_drewN _ _ _⟩ | exact ⟨rfl, _, Eq.trans (World.drewN_drewN _ _ _) (congrArg (World.drewN _) (Nat.add_assoc _ _ _))⟩)))
             repeat (go_quiet (first | (go_at_call 13; (with_reducible refine (order_Below.calls k2 _ _ t137 (f64from a1) t160 _ ?side1 ?side2 A53.out).mono ?_); (case side1 => repeat (first | exact (Kd.R_reads' HO_5.out).2.2 | (with_reducible refine Kd.C_alloc ?_ _) | (with_reducible refine Kd.C_drewN ?_ _) | (with_reducible refine Kd.C_drew ?_))); (case side2 => exact (Kd.R_reads' HO_5.out).2.1); rintro e w' ⟨rfl, ⟨nd, rfl⟩⟩; (try first | exact ⟨rfl, _, World.drewN_drewN _ _ _⟩ | exact ⟨rfl, _, Eq.trans (World.drewN_drewN _ _ _) (congrArg (World.drewN _) (Nat.add_assoc _ _ _))⟩))); try go_wp2_with (first | (go_at_call 13; (with_reducible refine (order_Below.calls k2 _ _ t137 (f64from a1) t160 _ ?side1 ?side2 A53.out).mono ?_); (case side1 => repeat (first | exact (Kd.R_reads' HO_5.out).2.2 | (with_reducible refine Kd.C_alloc ?_ _) | (with_reducible refine Kd.C_drewN ?_ _) | (with_reducible refine Kd.C_drew ?_))); (case side2 => exact (Kd.R_reads' HO_5.out).2.1); rintro e w' ⟨rfl, ⟨nd, rfl⟩⟩; (try first | exact ⟨rfl, _, World.drewN_drewN _ _ _⟩ | exact ⟨rfl, _, Eq.trans (World.drewN_drewN _ _ _) (congrArg (World.drewN _) (Nat.add_assoc _ _ _))⟩))))
             go_meet
             case rel => exact ⟨_, ((t160 != t159)), kr, H', ⟨by have := HK1.out; have := HK2.out; first | omega | exact Nat.le_refl _⟩, ⟨by (with_reducible repeat (first | apply Kd.R_alloc | apply Kd.R_drewN | apply Kd.R_drew)); exact Kd.R_mono HO_6.out (fun _ hk => trivial)⟩, ⟨kB0 HB⟩⟩
          ·rw [if_neg c48] at H
           have c48b0 : (x9_2 == (t147.length : Int)) = false := beq_eq_false_iff_ne.mpr c48
           have c48b1 : (x9_2 != (t147.length : Int)) = true := bne_iff_ne.mpr c48
           (first | rw [c48b0] | (simp only [i64_w, i32_w]; rw [c48b0]) | skip)
           have H' := Aside0.mk H
           clear H
           obtain ⟨Ao55, co55, eo55⟩ := Kd.R_slice HO_8.out
           subst eo55
           go_wp2
           repeat (go_quiet (fail); try go_wp2)
           go_meet
           case rel => exact ⟨_, (true), kr, H', ⟨by have := HK1.out; have := HK2.out; first | omega | exact Nat.le_refl _⟩, ⟨by (with_reducible repeat (first | apply Kd.R_alloc | apply Kd.R_drewN | apply Kd.R_drew)); exact Kd.R_mono HO_6.out (fun _ hk => trivial)⟩, ⟨kB0 HB⟩⟩
         case rest =>
          clear HC47
          try clear c1
          try clear p1
          try clear q1
          try clear hx1
          try clear c2
          try clear p2
          try clear c3
          try clear c4
          try clear c5
          try clear p6
          try clear c8
          try clear c14
          try clear c14b0
          try clear p14
          try clear q14
          try clear hx14
          try clear p15
          try clear q15
          try clear hx15
          try clear c16
          try clear c16b0
          try clear c17
          try clear c17b0
          try clear c18
          try clear c18b0
          try clear c20
          try clear c20b0
          try clear c23
          try clear c23b0
          try clear c25
          try clear c25b0
          try clear c26
          try clear c26b0
          try clear c27
          try clear c27b0
          try clear c29
          try clear c29b0
          try clear c30
          try clear c30b0
          try clear c31
          try clear c32
          try clear c32b0
          try clear c32b1
          try clear c34
          try clear c34b0
          try clear c35
          try clear c35b0
          try clear c36
          try clear c36b0
          try clear c37
          try clear c37b0
          try clear c38
          try clear c38b0
          try clear c39
          try clear c39b0
          try clear c41
          try clear c48
          try clear c48b0
          try clear c48b1
          try clear c49
          try clear c49b0
          try clear c51
          try clear c51b0
          try clear hx144_0
          try clear hx145_0
          try clear hx150_0
          try clear hx151_0
          try clear hx152_0
          try clear hx153_0
          try clear hx154_0
          try clear hx155_0
          try clear hx156_0
          try clear hx157_0
          try clear p144
          try clear p145
          try clear p150
          try clear p151
          try clear p152
          try clear p153
          try clear p154
          try clear p155
          try clear p156
          try clear p157
          try clear q144
          try clear q145
          try clear q150
          try clear q151
          try clear q152
          try clear q153
          try clear q154
          try clear q155
          try clear q156
          try clear q157
          obtain ⟨kq, x130_46, rfl, HA, HJ46, HO_6, HB⟩ := hcut
          cases kq with
          | zero => exact absurd HA.out (by simp [thicketlaw06_OrderSorts.j3])
          | succ kj46 =>
           have H := HA.out
           clear HA
           simp only [thicketlaw06_OrderSorts.j3] at H
           by_cases c56 : x130_46 = true
           ·subst c56
            have H1 : (some false) = some r := by rw [if_pos rfl] at H; exact H
            clear H
            have H := H1
            clear H1
            obtain rfl := Option.some.inj H
            go_wp2
            repeat (go_quiet (fail); try go_wp2)
            go_ret
            exact ⟨by first | rfl | (simp [errW_none, errW_some] <;> rfl) | (simp [*, errW_none, errW_some] <;> rfl), kB0 HB⟩
           ·replace c56 := Bool.eq_false_iff.mpr c56
            subst c56
            have H1 : (thicketlaw06_OrderSorts.l2 kj46 t140 (f64from a1) t159 0) = some r := by rw [if_neg (show ¬ (false = true) by decide)] at H; exact H
            clear H
            have H := H1
            clear H1
            have H' := Aside0.mk H
            clear H
            go_wp2
            repeat (go_quiet (fail); try go_wp2)
            go_loopg [13] kj46 (fun kq v13 w' => ∃ (x13_4 : Int), v13 = .int .i64 x13_4 ∧ Aside0 (thicketlaw06_OrderSorts.l2 kq t140 (f64from a1) t159 x13_4 = some r) ∧ Aside0 (kq ≤ kj46) ∧ Aside0 (Kd.R Kd.f64 26 w' w.heap.size (fun _ => True) (.slice Ao12 t140.length co12) t140) ∧ Aside0 (Below w.heap.size w w'))
            case atStart => exact ⟨(0), kr, H', ⟨Nat.le_refl _⟩, ⟨kR HO_6⟩, ⟨kB0 HB⟩⟩
            case round =>
             clear H'
             try clear c1
             try clear p1
             try clear q1
             try clear hx1
             try clear c2
             try clear p2
             try clear c3
             try clear c4
             try clear c5
             try clear p6
             try clear c8
             try clear c14
             try clear c14b0
             try clear p14
             try clear q14
             try clear hx14
             try clear p15
             try clear q15
             try clear hx15
             try clear c16
             try clear c16b0
             try clear c17
             try clear c17b0
             try clear c18
             try clear c18b0
             try clear c20
             try clear c20b0
             try clear c23
             try clear c23b0
             try clear c25
             try clear c25b0
             try clear c26
             try clear c26b0
             try clear c27
             try clear c27b0
             try clear c29
             try clear c29b0
             try clear c30
             try clear c30b0
             try clear c31
             try clear c32
             try clear c32b0
             try clear c32b1
             try clear c34
             try clear c34b0
             try clear c35
             try clear c35b0
             try clear c36
             try clear c36b0
             try clear c37
             try clear c37b0
             try clear c38
             try clear c38b0
             try clear c39
             try clear c39b0
             try clear c41
             try clear c48
             try clear c48b0
             try clear c48b1
             try clear c49
             try clear c49b0
             try clear c51
             try clear c51b0
             try clear c56
             try clear hx144_0
             try clear hx145_0
             try clear hx150_0
             try clear hx151_0
             try clear hx152_0
             try clear hx153_0
             try clear hx154_0
             try clear hx155_0
             try clear hx156_0
             try clear hx157_0
             try clear p144
             try clear p145
             try clear p150
             try clear p151
             try clear p152
             try clear p153
             try clear p154
             try clear p155
             try clear p156
             try clear p157
             try clear q144
             try clear q145
             try clear q150
             try clear q151
             try clear q152
             try clear q153
             try clear q154
             try clear q155
             try clear q156
             try clear q157
             obtain ⟨x13_4, rfl, HA, HK4, HO_6, HB⟩ := hrel
             cases gk with
             | zero => exact absurd HA.out (by simp [thicketlaw06_OrderSorts.l2])
             | succ k4 =>
              have H := HA.out
              clear HA
              simp only [thicketlaw06_OrderSorts.l2] at H
              by_cases c57 : x13_4 < (t140.length : Int)
              ·rw [if_pos c57] at H
               have c57b0 : decide (x13_4 < (t140.length : Int)) = true := decide_eq_true c57
               clear c57
               by_cases c58 : 0 ≤ x13_4
               ·rw [if_pos c58] at H
                have c58b0 : decide (0 ≤ x13_4) = true := decide_eq_true c58
                clear c58
                replace H := Option.bind_eq_some_iff.mp H
                obtain ⟨t162, A590, H⟩ := H
                replace H : (if ((decide (t162 < 0)) != (decide (x13_4 < t159))) = true then (some false) else (thicketlaw06_OrderSorts.l2 k4 t140 (f64from a1) t159 (wrap64 (x13_4 + 1)))) = some r := H
                have A59 := Aside0.mk A590
                clear A590
                by_cases c60 : ((decide (t162 < 0)) != (decide (x13_4 < t159))) = true
                ·rw [if_pos c60] at H
                 have c60b0 : ((decide (t162 < 0)) != (decide (x13_4 < t159))) = true := c60
                 (try (have c60b1 : decide ((decide (t162 < 0)) = (decide (x13_4 < t159))) = false := by simpa using c60))
                 (try (have c60b2 : ((decide (t162 < 0)) == (decide (x13_4 < t159))) = false := by simpa using c60))
                 (try (have c60b3 : ¬ ((decide (t162 < 0)) = (decide (x13_4 < t159))) := by simpa using c60))
                 clear c60
                 obtain rfl := Option.some.inj H
                 have p161 : 0 ≤ (x13_4 : Int) := of_decide_eq_true ka
                 have q161 : x13_4 < (t140.length : Int) := of_decide_eq_true ka
                 obtain ⟨ad161, e161, hx161_0⟩ := Kd.at_f64 (Kd.R_reads' HO_6.out).2.2 x13_4 p161 q161
                 cases e161
                 replace p161 := eq_true p161
                 replace q161 := eq_true q161
                 go_wp2_with (first | (go_at_call 17; (with_reducible refine (order_Compare.calls (rdOf (0 : Nat) t140 x13_4) (f64from a1) t162 _ A59.out).mono ?_); rintro e w' ⟨rfl, ⟨nd, rfl⟩⟩; (try first | exact ⟨rfl, _, World.drewN_drewN _ _ _⟩ | exact ⟨rfl, _, Eq.trans (World.drewN_drewN _ _ _) (congrArg (World.drewN _) (Nat.add_assoc _ _ _))⟩)))
                 repeat (go_quiet (first | (go_at_call 17; (with_reducible refine (order_Compare.calls (rdOf (0 : Nat) t140 x13_4) (f64from a1) t162 _ A59.out).mono ?_); rintro e w' ⟨rfl, ⟨nd, rfl⟩⟩; (try first | exact ⟨rfl, _, World.drewN_drewN _ _ _⟩ | exact ⟨rfl, _, Eq.trans (World.drewN_drewN _ _ _) (congrArg (World.drewN _) (Nat.add_assoc _ _ _))⟩))); try go_wp2_with (first | (go_at_call 17; (with_reducible refine (order_Compare.calls (rdOf (0 : Nat) t140 x13_4) (f64from a1) t162 _ A59.out).mono ?_); rintro e w' ⟨rfl, ⟨nd, rfl⟩⟩; (try first | exact ⟨rfl, _, World.drewN_drewN _ _ _⟩ | exact ⟨rfl, _, Eq.trans (World.drewN_drewN _ _ _) (congrArg (World.drewN _) (Nat.add_assoc _ _ _))⟩))))
                 go_ret
                 exact ⟨by first | rfl | (simp [errW_none, errW_some] <;> rfl) | (simp [*, errW_none, errW_some] <;> rfl), kB0 HB⟩
                ·rw [if_neg c60] at H
                 have c60b0 : ((decide (t162 < 0)) != (decide (x13_4 < t159))) = false := by simpa using c60
                 (try (have c60b1 : decide ((decide (t162 < 0)) = (decide (x13_4 < t159))) = true := by simpa using c60))
                 (try (have c60b2 : ((decide (t162 < 0)) == (decide (x13_4 < t159))) = true := by simpa using c60))
                 clear c60
                 have H' := Aside0.mk H
                 clear H
                 have p161 : 0 ≤ (x13_4 : Int) := of_decide_eq_true ka
                 have q161 : x13_4 < (t140.length : Int) := of_decide_eq_true ka
                 obtain ⟨ad161, e161, hx161_0⟩ := Kd.at_f64 (Kd.R_reads' HO_6.out).2.2 x13_4 p161 q161
                 cases e161
                 replace p161 := eq_true p161
                 replace q161 := eq_true q161
                 go_wp2_with (first | (go_at_call 17; (with_reducible refine (order_Compare.calls (rdOf (0 : Nat) t140 x13_4) (f64from a1) t162 _ A59.out).mono ?_); rintro e w' ⟨rfl, ⟨nd, rfl⟩⟩; (try first | exact ⟨rfl, _, World.drewN_drewN _ _ _⟩ | exact ⟨rfl, _, Eq.trans (World.drewN_drewN _ _ _) (congrArg (World.drewN _) (Nat.add_assoc _ _ _))⟩)))
                 repeat (go_quiet (first | (go_at_call 17; (with_reducible refine (order_Compare.calls (rdOf (0 : Nat) t140 x13_4) (f64from a1) t162 _ A59.out).mono ?_); rintro e w' ⟨rfl, ⟨nd, rfl⟩⟩; (try first | exact ⟨rfl, _, World.drewN_drewN _ _ _⟩ | exact ⟨rfl, _, Eq.trans (World.drewN_drewN _ _ _) (congrArg (World.drewN _) (Nat.add_assoc _ _ _))⟩))); try go_wp2_with (first | (go_at_call 17; (with_reducible refine (order_Compare.calls (rdOf (0 : Nat) t140 x13_4) (f64from a1) t162 _ A59.out).mono ?_); rintro e w' ⟨rfl, ⟨nd, rfl⟩⟩; (try first | exact ⟨rfl, _, World.drewN_drewN _ _ _⟩ | exact ⟨rfl, _, Eq.trans (World.drewN_drewN _ _ _) (congrArg (World.drewN _) (Nat.add_assoc _ _ _))⟩))))
                 go_roundg k4
                 case measure => have := HK1.out; have := HK2.out; have := HJ46.out; have := HK4.out; omega
                 case rel => exact ⟨(wrap64 (x13_4 + 1)), kr, H', ⟨by have := HK1.out; have := HK2.out; have := HJ46.out; have := HK4.out; omega⟩, ⟨kR HO_6⟩, ⟨kB0 HB⟩⟩
               ·rw [if_neg c58] at H
                exact absurd H (by simp)
              ·rw [if_neg c57] at H
               have c57b0 : decide (x13_4 < (t140.length : Int)) = false := decide_eq_false c57
               clear c57
               obtain rfl := Option.some.inj H
               go_wp2
               repeat (go_quiet (fail); try go_wp2)
               go_ret
               exact ⟨by first | rfl | (simp [errW_none, errW_some] <;> rfl) | (simp [*, errW_none, errW_some] <;> rfl), kB0 HB⟩
  ·replace c8 := Bool.eq_false_iff.mpr c8
   subst c8
   have H1 : (some false) = some r := by rw [if_neg (show ¬ (false = true) by decide)] at H; exact H
   clear H
   have H := H1
   clear H1
   obtain rfl := Option.some.inj H
   go_enter Try.func4, Try.ntmps4
   go_wp2_with (first | (go_at_call 15; (with_reducible refine (thicketlaw06_begins.calls  true _ A3.out).mono ?_); rintro e w' ⟨rfl, ⟨nd, rfl⟩⟩; (try first | exact ⟨rfl, _, World.drewN_drewN _ _ _⟩ | exact ⟨rfl, _, Eq.trans (World.drewN_drewN _ _ _) (congrArg (World.drewN _) (Nat.add_assoc _ _ _))⟩)) | (go_at_call 6; (with_reducible refine (thicketlaw06_list.calls k _ _ l0 t137 _ ?side1 ?side2 A5.out).mono ?_); (case side1 => repeat (first | exact HR0.out | (with_reducible refine Kd.C_alloc ?_ _) | (with_reducible refine Kd.C_drewN ?_ _) | (with_reducible refine Kd.C_drew ?_))); (case side2 => exact HC0.out); rintro e w61 ⟨v138, rfl, ho0, hb⟩; have n0_ := Aside0.mk (Kd.R_lower ho0 (below_size (kB0 HB))); have n1_ := Aside0.mk (below_step (kB0 HB) hb); clear HB; have HO139 := n0_; have HB := n1_; clear n0_ n1_; (try clear hb); (try clear hb2); (try clear hk); (try clear hi); (try clear ho0); obtain ⟨Ao62, co62, eo62⟩ := Kd.R_slice HO139.out; subst eo62) | (go_at_call 9; (with_reducible refine (order_Sorted.calls _ _ t137 t140 _ ?side1 ?side2 A6.out).mono ?_); (case side1 => repeat (first | exact (Kd.R_reads' HO139.out).2.2 | (with_reducible refine Kd.C_alloc ?_ _) | (with_reducible refine Kd.C_drewN ?_ _) | (with_reducible refine Kd.C_drew ?_))); (case side2 => exact (Kd.R_reads' HO139.out).2.1); rintro e w63 ⟨v141, rfl, ho0, hb⟩; have n0_ := Aside0.mk (Kd.R_elder' (kR HO139) (Kd.R_base ho0) hb); have n1_ := Aside0.mk (Kd.R_lower (Kd.R_new' ho0 (Kd.R_lt (kR HO139))) (below_size (kB0 HB))); have n2_ := Aside0.mk (below_step (kB0 HB) hb); clear HO139; clear HB; have HO139 := n0_; have HO142 := n1_; have HB := n2_; clear n0_ n1_ n2_; (try clear hb); (try clear hb2); (try clear hk); (try clear hi); (try clear ho0); obtain ⟨Ao64, co64, eo64⟩ := Kd.R_slice HO142.out; subst eo64) | (go_at_call 16; (with_reducible refine (thicketlaw06_counts.calls k _ _ t137 _ _ t140 false _ ?side1 ?side2 ?side3 ?side4 A7.out).mono ?_); (case side1 => repeat (first | exact (Kd.R_reads' HO139.out).2.2 | (with_reducible refine Kd.C_alloc ?_ _) | (with_reducible refine Kd.C_drewN ?_ _) | (with_reducible refine Kd.C_drew ?_))); (case side2 => exact (Kd.R_reads' HO139.out).2.1); (case side3 => repeat (first | exact (Kd.R_reads' HO142.out).2.2 | (with_reducible refine Kd.C_alloc ?_ _) | (with_reducible refine Kd.C_drewN ?_ _) | (with_reducible refine Kd.C_drew ?_))); (case side4 => exact (Kd.R_reads' HO142.out).2.1); rintro e w65 ⟨rfl, hb⟩; have n0_ := Aside0.mk (Kd.R_below (kR HO139) hb); have n1_ := Aside0.mk (Kd.R_below (kR HO142) hb); have n2_ := Aside0.mk (below_step (kB0 HB) hb); clear HO139; clear HO142; clear HB; have HO139 := n0_; have HO142 := n1_; have HB := n2_; clear n0_ n1_ n2_; (try clear hb); (try clear hb2); (try clear hk); (try clear hi)))
   repeat (go_quiet (first | (go_at_call 15; (with_reducible refine (thicketlaw06_begins.calls  true _ A3.out).mono ?_); rintro e w' ⟨rfl, ⟨nd, rfl⟩⟩; (try first | exact ⟨rfl, _, World.drewN_drewN _ _ _⟩ | exact ⟨rfl, _, Eq.trans (World.drewN_drewN _ _ _) (congrArg (World.drewN _) (Nat.add_assoc _ _ _))⟩)) | (go_at_call 6; (with_reducible refine (thicketlaw06_list.calls k _ _ l0 t137 _ ?side1 ?side2 A5.out).mono ?_); (case side1 => repeat (first | exact HR0.out | (with_reducible refine Kd.C_alloc ?_ _) | (with_reducible refine Kd.C_drewN ?_ _) | (with_reducible refine Kd.C_drew ?_))); (case side2 => exact HC0.out); rintro e w61 ⟨v138, rfl, ho0, hb⟩; have n0_ := Aside0.mk (Kd.R_lower ho0 (below_size (kB0 HB))); have n1_ := Aside0.mk (below_step (kB0 HB) hb); clear HB; have HO139 := n0_; have HB := n1_; clear n0_ n1_; (try clear hb); (try clear hb2); (try clear hk); (try clear hi); (try clear ho0); obtain ⟨Ao62, co62, eo62⟩ := Kd.R_slice HO139.out; subst eo62) | (go_at_call 9; (with_reducible refine (order_Sorted.calls _ _ t137 t140 _ ?side1 ?side2 A6.out).mono ?_); (case side1 => repeat (first | exact (Kd.R_reads' HO139.out).2.2 | (with_reducible refine Kd.C_alloc ?_ _) | (with_reducible refine Kd.C_drewN ?_ _) | (with_reducible refine Kd.C_drew ?_))); (case side2 => exact (Kd.R_reads' HO139.out).2.1); rintro e w63 ⟨v141, rfl, ho0, hb⟩; have n0_ := Aside0.mk (Kd.R_elder' (kR HO139) (Kd.R_base ho0) hb); have n1_ := Aside0.mk (Kd.R_lower (Kd.R_new' ho0 (Kd.R_lt (kR HO139))) (below_size (kB0 HB))); have n2_ := Aside0.mk (below_step (kB0 HB) hb); clear HO139; clear HB; have HO139 := n0_; have HO142 := n1_; have HB := n2_; clear n0_ n1_ n2_; (try clear hb); (try clear hb2); (try clear hk); (try clear hi); (try clear ho0); obtain ⟨Ao64, co64, eo64⟩ := Kd.R_slice HO142.out; subst eo64) | (go_at_call 16; (with_reducible refine (thicketlaw06_counts.calls k _ _ t137 _ _ t140 false _ ?side1 ?side2 ?side3 ?side4 A7.out).mono ?_); (case side1 => repeat (first | exact (Kd.R_reads' HO139.out).2.2 | (with_reducible refine Kd.C_alloc ?_ _) | (with_reducible refine Kd.C_drewN ?_ _) | (with_reducible refine Kd.C_drew ?_))); (case side2 => exact (Kd.R_reads' HO139.out).2.1); (case side3 => repeat (first | exact (Kd.R_reads' HO142.out).2.2 | (with_reducible refine Kd.C_alloc ?_ _) | (with_reducible refine Kd.C_drewN ?_ _) | (with_reducible refine Kd.C_drew ?_))); (case side4 => exact (Kd.R_reads' HO142.out).2.1); rintro e w65 ⟨rfl, hb⟩; have n0_ := Aside0.mk (Kd.R_below (kR HO139) hb); have n1_ := Aside0.mk (Kd.R_below (kR HO142) hb); have n2_ := Aside0.mk (below_step (kB0 HB) hb); clear HO139; clear HO142; clear HB; have HO139 := n0_; have HO142 := n1_; have HB := n2_; clear n0_ n1_ n2_; (try clear hb); (try clear hb2); (try clear hk); (try clear hi))); try go_wp2_with (first | (go_at_call 15; (with_reducible refine (thicketlaw06_begins.calls  true _ A3.out).mono ?_); rintro e w' ⟨rfl, ⟨nd, rfl⟩⟩; (try first | exact ⟨rfl, _, World.drewN_drewN _ _ _⟩ | exact ⟨rfl, _, Eq.trans (World.drewN_drewN _ _ _) (congrArg (World.drewN _) (Nat.add_assoc _ _ _))⟩)) | (go_at_call 6; (with_reducible refine (thicketlaw06_list.calls k _ _ l0 t137 _ ?side1 ?side2 A5.out).mono ?_); (case side1 => repeat (first | exact HR0.out | (with_reducible refine Kd.C_alloc ?_ _) | (with_reducible refine Kd.C_drewN ?_ _) | (with_reducible refine Kd.C_drew ?_))); (case side2 => exact HC0.out); rintro e w61 ⟨v138, rfl, ho0, hb⟩; have n0_ := Aside0.mk (Kd.R_lower ho0 (below_size (kB0 HB))); have n1_ := Aside0.mk (below_step (kB0 HB) hb); clear HB; have HO139 := n0_; have HB := n1_; clear n0_ n1_; (try clear hb); (try clear hb2); (try clear hk); (try clear hi); (try clear ho0); obtain ⟨Ao62, co62, eo62⟩ := Kd.R_slice HO139.out; subst eo62) | (go_at_call 9; (with_reducible refine (order_Sorted.calls _ _ t137 t140 _ ?side1 ?side2 A6.out).mono ?_); (case side1 => repeat (first | exact (Kd.R_reads' HO139.out).2.2 | (with_reducible refine Kd.C_alloc ?_ _) | (with_reducible refine Kd.C_drewN ?_ _) | (with_reducible refine Kd.C_drew ?_))); (case side2 => exact (Kd.R_reads' HO139.out).2.1); rintro e w63 ⟨v141, rfl, ho0, hb⟩; have n0_ := Aside0.mk (Kd.R_elder' (kR HO139) (Kd.R_base ho0) hb); have n1_ := Aside0.mk (Kd.R_lower (Kd.R_new' ho0 (Kd.R_lt (kR HO139))) (below_size (kB0 HB))); have n2_ := Aside0.mk (below_step (kB0 HB) hb); clear HO139; clear HB; have HO139 := n0_; have HO142 := n1_; have HB := n2_; clear n0_ n1_ n2_; (try clear hb); (try clear hb2); (try clear hk); (try clear hi); (try clear ho0); obtain ⟨Ao64, co64, eo64⟩ := Kd.R_slice HO142.out; subst eo64) | (go_at_call 16; (with_reducible refine (thicketlaw06_counts.calls k _ _ t137 _ _ t140 false _ ?side1 ?side2 ?side3 ?side4 A7.out).mono ?_); (case side1 => repeat (first | exact (Kd.R_reads' HO139.out).2.2 | (with_reducible refine Kd.C_alloc ?_ _) | (with_reducible refine Kd.C_drewN ?_ _) | (with_reducible refine Kd.C_drew ?_))); (case side2 => exact (Kd.R_reads' HO139.out).2.1); (case side3 => repeat (first | exact (Kd.R_reads' HO142.out).2.2 | (with_reducible refine Kd.C_alloc ?_ _) | (with_reducible refine Kd.C_drewN ?_ _) | (with_reducible refine Kd.C_drew ?_))); (case side4 => exact (Kd.R_reads' HO142.out).2.1); rintro e w65 ⟨rfl, hb⟩; have n0_ := Aside0.mk (Kd.R_below (kR HO139) hb); have n1_ := Aside0.mk (Kd.R_below (kR HO142) hb); have n2_ := Aside0.mk (below_step (kB0 HB) hb); clear HO139; clear HO142; clear HB; have HO139 := n0_; have HO142 := n1_; have HB := n2_; clear n0_ n1_ n2_; (try clear hb); (try clear hb2); (try clear hk); (try clear hi))))
   go_ret
   exact ⟨by first | rfl | (simp [errW_none, errW_some] <;> rfl) | (simp [*, errW_none, errW_some] <;> rfl), kB0 HB⟩
 ·replace c4 := Bool.eq_false_iff.mpr c4
  subst c4
  have H1 : (some false) = some r := by rw [if_neg (show ¬ (false = true) by decide)] at H; exact H
  clear H
  have H := H1
  clear H1
  obtain rfl := Option.some.inj H
  go_enter Try.func4, Try.ntmps4
  go_wp2_with (first | (go_at_call 15; (with_reducible refine (thicketlaw06_begins.calls  false _ A3.out).mono ?_); rintro e w' ⟨rfl, ⟨nd, rfl⟩⟩; (try first | exact ⟨rfl, _, World.drewN_drewN _ _ _⟩ | exact ⟨rfl, _, Eq.trans (World.drewN_drewN _ _ _) (congrArg (World.drewN _) (Nat.add_assoc _ _ _))⟩)))
  repeat (go_quiet (first | (go_at_call 15; (with_reducible refine (thicketlaw06_begins.calls  false _ A3.out).mono ?_); rintro e w' ⟨rfl, ⟨nd, rfl⟩⟩; (try first | exact ⟨rfl, _, World.drewN_drewN _ _ _⟩ | exact ⟨rfl, _, Eq.trans (World.drewN_drewN _ _ _) (congrArg (World.drewN _) (Nat.add_assoc _ _ _))⟩))); try go_wp2_with (first | (go_at_call 15; (with_reducible refine (thicketlaw06_begins.calls  false _ A3.out).mono ?_); rintro e w' ⟨rfl, ⟨nd, rfl⟩⟩; (try first | exact ⟨rfl, _, World.drewN_drewN _ _ _⟩ | exact ⟨rfl, _, Eq.trans (World.drewN_drewN _ _ _) (congrArg (World.drewN _) (Nat.add_assoc _ _ _))⟩))))
  go_ret
  exact ⟨by first | rfl | (simp [errW_none, errW_some] <;> rfl) | (simp [*, errW_none, errW_some] <;> rfl), kB0 HB⟩
/-- THE ONE PURE STATEMENT of thicketlaw06_OrderSorts: yours. -/
def thicketlaw06_OrderSorts.Pure : Prop := ∀ (l0 : List Int) (a1 : Int), l0.length ≤ maxLen → l0.length * 8 ≤ 140737488351232 → (∀ x ∈ l0, (Lit.int .u64 x).wf = true) → (Lit.int .u64 a1).wf = true → ∃ k, thicketlaw06_OrderSorts.f k l0 a1 = some true
theorem thicketlaw06_OrderSorts.walk (P : thicketlaw06_OrderSorts.Pure) (a0 : Option Addr) (len0 cap0 : Nat) (z0 : List Int) (a1 : Int) (w : World) (w0 : (a0 = none ∧ len0 = 0 ∧ cap0 = 0 ∧ z0 = []) ∨ ∃ x, a0 = some x ∧ len0 ≤ cap0 ∧ cap0 ≤ maxLen ∧ z0.length = cap0 ∧ (∀ i, i < z0.length → w.cell? (x.add i) = some (.int .u64 (z0.getD i 0))) ∧ ∀ n ∈ z0, (Lit.int .u64 n).wf = true) (y0 : len0 * 8 ≤ 140737488351232) (w1 : (Lit.int .u64 a1).wf = true) :
  Calls Try.prog 4 #[.slice a0 len0 cap0, .int .u64 a1] w fun e w' => e = .returned (.bool true) ∧ Below w.heap.size w w' := by
 obtain ⟨l0, rfl, hr0, hm0, hw0, hc0⟩ := ReadsInt.ofRowC w0
 obtain ⟨k, h⟩ := P l0 a1 hm0 y0 hw0 w1
 refine (thicketlaw06_OrderSorts.calls k _ _ l0 a1 true w (Kd.C_of_reads (d := (0 : Int)) (h1 := fun _ => rfl) hr0) hc0 h).mono ?_
 rintro e w' ⟨rfl, hd⟩
 exact ⟨rfl, hd⟩
end Go.Proofs.Ytdhiljimmijghaa.FAll
