-- written by fprint.sh, a program of ours over the kit's print: not by hand
import Derived.Test.YtdhiljimmijghaaFAllx0
import Derived.Test.YtdhiljimmijghaaFAllx1
namespace Go.Proofs.Ytdhiljimmijghaa.FAll
set_option linter.unusedSectionVars false
variable [OrdC]
open Go.RowKit Go.Proofs.YtdhiljimmijghaaW.PrintWords Go.Proofs.YtdhiljimmijghaaW.PrintLast Go.Proofs.YtdhiljimmijghaaW.PrintMore
attribute [local go_sem] feq_walk fne_walk flt_walk fle_walk fgt_walk fge_walk fint_walk fstore_walk run_f64bits run_f64from max2_int min2_int max_two min_two max_three min_three max_four min_four   -- for this text's walks alone
set_option linter.unusedVariables false
set_option linter.unusedSimpArgs false
/-! ### thicketlaw06_OrderOwn: function 5 -/
mutual
def thicketlaw06_OrderOwn.j0 : Nat → List Nat → List Nat → List Nat → List Nat → List Nat → Bool → Option (Bool)
 | 0, _, _, _, _, _, _ => none
 | k + 1, x3, x4, x5, x6, x7, x52 => if x52 = true then (some false) else (thicketlaw06_OrderOwn.l0 k x3 x4 x5 x6 x7 ([] : List Int) 0)
def thicketlaw06_OrderOwn.l0 : Nat → List Nat → List Nat → List Nat → List Nat → List Nat → List Int → Int → Option (Bool)
 | 0, _, _, _, _, _, _, _ => none
 | k + 1, x3, x4, x5, x6, x7, x8, x9 => if x9 < (x5.length : Int) then (if 0 ≤ x9 then (if x8.length < 17592186044416 then (thicketlaw06_OrderOwn.l0 k x3 x4 x5 x6 x7 (x8 ++ [f64bits (rdOf (0 : Nat) x5 x9)]) (wrap64 (x9 + 1))) else (none)) else (none)) else (thicketlaw06_OrderOwn.l1 k x3 x4 x5 x6 x7 x8 0)
def thicketlaw06_OrderOwn.l1 : Nat → List Nat → List Nat → List Nat → List Nat → List Nat → List Int → Int → Option (Bool)
 | 0, _, _, _, _, _, _, _ => none
 | k + 1, x3, x4, x5, x6, x7, x8, x10 => if x10 < (x7.length : Int) then (if 0 ≤ x10 then (if x8.length < 17592186044416 then (thicketlaw06_OrderOwn.l1 k x3 x4 x5 x6 x7 (x8 ++ [f64bits (rdOf (0 : Nat) x7 x10)]) (wrap64 (x10 + 1))) else (none)) else (none)) else (thicketlaw06_OrderOwn.l2 k x3 x4 x5 x6 x7 x8 0)
def thicketlaw06_OrderOwn.l2 : Nat → List Nat → List Nat → List Nat → List Nat → List Nat → List Int → Int → Option (Bool)
 | 0, _, _, _, _, _, _, _ => none
 | k + 1, x3, x4, x5, x6, x7, x8, x11 => if x11 < (x4.length : Int) then (if 0 ≤ x11 then (thicketlaw06_OrderOwn.l2 k x3 (x4.set (x11 : Int).toNat 13837309855095848960) x5 x6 x7 x8 (wrap64 (x11 + 1))) else (none)) else (thicketlaw06_OrderOwn.l3 k x3 x4 x5 x6 x7 x8 0)
def thicketlaw06_OrderOwn.l3 : Nat → List Nat → List Nat → List Nat → List Nat → List Nat → List Int → Int → Option (Bool)
 | 0, _, _, _, _, _, _, _ => none
 | k + 1, x3, x4, x5, x6, x7, x8, x12 => if x12 < (x6.length : Int) then (if 0 ≤ x12 then (thicketlaw06_OrderOwn.l3 k x3 x4 x5 (x6.set (x12 : Int).toNat 13839561654909534208) x7 x8 (wrap64 (x12 + 1))) else (none)) else (if x4.length < 17592186044416 then (if x6.length < 17592186044416 then ((some (([] : List Nat) : List Nat)).bind fun y162 => (if y162.length + x5.length < 17592186044416 then ((some (y162 ++ x5 : List Nat)).bind fun y165 => (if y165.length + x7.length < 17592186044416 then (thicketlaw06_OrderOwn.l4 k x3 (x4 ++ [13840687554816376832]) (x6 ++ [13841813454723219456]) x8 (y165 ++ x7) 0) else (none))) else (none))) else (none)) else (none))
def thicketlaw06_OrderOwn.l4 : Nat → List Nat → List Nat → List Nat → List Int → List Nat → Int → Option (Bool)
 | 0, _, _, _, _, _, _ => none
 | k + 1, x3, x4, x6, x8, x13, x14 => if x14 < (x13.length : Int) then (if 0 ≤ x14 then (if x14 < (x8.length : Int) then (if (f64bits (rdOf (0 : Nat) x13 x14)) = (rd x8 x14) then (thicketlaw06_OrderOwn.l4 k x3 x4 x6 x8 x13 (wrap64 (x14 + 1))) else (some false)) else (none)) else (none)) else (if 0 ≤ (wrap64 ((x3.length : Int) - 1)) then (if (wrap64 ((x3.length : Int) - 1)) < (x3.length : Int) then (if (feq (rdOf (0 : Nat) x3 (wrap64 ((x3.length : Int) - 1))) 4611686018427387904) = true then (if 0 ≤ (wrap64 ((x3.length : Int) - 2)) then (if (wrap64 ((x3.length : Int) - 2)) < (x3.length : Int) then (if (feq (rdOf (0 : Nat) x3 (wrap64 ((x3.length : Int) - 2))) 4607182418800017408) = true then (if 0 ≤ (wrap64 ((x4.length : Int) - 1)) then (if (wrap64 ((x4.length : Int) - 1)) < (x4.length : Int) then (if (feq (rdOf (0 : Nat) x4 (wrap64 ((x4.length : Int) - 1))) 13840687554816376832) = true then (if 0 ≤ (wrap64 ((x6.length : Int) - 1)) then (if (wrap64 ((x6.length : Int) - 1)) < (x6.length : Int) then (if (feq (rdOf (0 : Nat) x6 (wrap64 ((x6.length : Int) - 1))) 13841813454723219456) = true then ((math_Inf.f 1).bind fun t177 => ((order_Below.f k x3 t177).bind fun t178 => (some (decide (t178 ≥ 2))))) else (some false)) else (none)) else (none)) else (some false)) else (none)) else (none)) else (some false)) else (none)) else (none)) else (some false)) else (none)) else (none))
end
def thicketlaw06_OrderOwn.f (k : Nat) (l0 : List Int) : Option (Bool) := (thicketlaw06_begins.f).bind fun t124 => (if t124 = true then ((thicketlaw06_list.f k l0).bind fun t125 => ((some (([4607182418800017408, 4611686018427387904] : List Nat) : List Nat)).bind fun y128 => (if t125.length + y128.length < 17592186044416 then ((some (t125 ++ y128 : List Nat)).bind fun y131 => ((order_Sorted.f y131).bind fun t134 => ((order_Sorted.f y131).bind fun t137 => ((order_Distinct.f y131).bind fun t140 => ((order_Distinct.f y131).bind fun t143 => (if (t134.length : Int) = (t137.length : Int) then (if (t140.length : Int) = (t143.length : Int) then (if (t134.length : Int) = (y131.length : Int) then (thicketlaw06_OrderOwn.j0 k y131 t134 t137 t140 t143 (decide ((t140.length : Int) < 2))) else (thicketlaw06_OrderOwn.j0 k y131 t134 t137 t140 t143 true)) else (thicketlaw06_OrderOwn.j0 k y131 t134 t137 t140 t143 true)) else (thicketlaw06_OrderOwn.j0 k y131 t134 t137 t140 t143 true))))))) else (none)))) else (some false))
theorem thicketlaw06_OrderOwn.mono_l : ∀ k, (∀ y0 y1 y2 y3 y4 y5, LeO (thicketlaw06_OrderOwn.j0 k y0 y1 y2 y3 y4 y5) (thicketlaw06_OrderOwn.j0 (k + 1) y0 y1 y2 y3 y4 y5)) ∧ (∀ y0 y1 y2 y3 y4 y5 y6, LeO (thicketlaw06_OrderOwn.l0 k y0 y1 y2 y3 y4 y5 y6) (thicketlaw06_OrderOwn.l0 (k + 1) y0 y1 y2 y3 y4 y5 y6)) ∧ (∀ y0 y1 y2 y3 y4 y5 y6, LeO (thicketlaw06_OrderOwn.l1 k y0 y1 y2 y3 y4 y5 y6) (thicketlaw06_OrderOwn.l1 (k + 1) y0 y1 y2 y3 y4 y5 y6)) ∧ (∀ y0 y1 y2 y3 y4 y5 y6, LeO (thicketlaw06_OrderOwn.l2 k y0 y1 y2 y3 y4 y5 y6) (thicketlaw06_OrderOwn.l2 (k + 1) y0 y1 y2 y3 y4 y5 y6)) ∧ (∀ y0 y1 y2 y3 y4 y5 y6, LeO (thicketlaw06_OrderOwn.l3 k y0 y1 y2 y3 y4 y5 y6) (thicketlaw06_OrderOwn.l3 (k + 1) y0 y1 y2 y3 y4 y5 y6)) ∧ (∀ y0 y1 y2 y3 y4 y5, LeO (thicketlaw06_OrderOwn.l4 k y0 y1 y2 y3 y4 y5) (thicketlaw06_OrderOwn.l4 (k + 1) y0 y1 y2 y3 y4 y5))
 | 0 => ⟨fun _ _ _ _ _ _ r h => by simp [thicketlaw06_OrderOwn.j0] at h, fun _ _ _ _ _ _ _ r h => by simp [thicketlaw06_OrderOwn.l0] at h, fun _ _ _ _ _ _ _ r h => by simp [thicketlaw06_OrderOwn.l1] at h, fun _ _ _ _ _ _ _ r h => by simp [thicketlaw06_OrderOwn.l2] at h, fun _ _ _ _ _ _ _ r h => by simp [thicketlaw06_OrderOwn.l3] at h, fun _ _ _ _ _ _ r h => by simp [thicketlaw06_OrderOwn.l4] at h⟩
 | k + 1 => by
  obtain ⟨ih0, ih1, ih2, ih3, ih4, ih5⟩ := thicketlaw06_OrderOwn.mono_l k
  refine ⟨?_, ?_, ?_, ?_, ?_, ?_⟩
  ·intro y0 y1 y2 y3 y4 y5
   unfold thicketlaw06_OrderOwn.j0
   repeat' first
   | (with_reducible exact ih0 _ _ _ _ _ _)
   | (with_reducible exact ih1 _ _ _ _ _ _ _)
   | (with_reducible exact ih2 _ _ _ _ _ _ _)
   | (with_reducible exact ih3 _ _ _ _ _ _ _)
   | (with_reducible exact ih4 _ _ _ _ _ _ _)
   | (with_reducible exact ih5 _ _ _ _ _ _)
   | (with_reducible exact order_Below.mono _ _ _)
   | (with_reducible exact thicketlaw06_list.mono _ _)
   | (with_reducible exact LeO.refl _)
   | (with_reducible exact LeO.none _)
   | (with_reducible refine LeO.ite ?_ ?_)
   | (with_reducible refine LeO.bind ?_ (fun _ => ?_))
   | exact ih0 _ _ _ _ _ _
   | exact ih1 _ _ _ _ _ _ _
   | exact ih2 _ _ _ _ _ _ _
   | exact ih3 _ _ _ _ _ _ _
   | exact ih4 _ _ _ _ _ _ _
   | exact ih5 _ _ _ _ _ _
   | exact order_Below.mono _ _ _
   | exact thicketlaw06_list.mono _ _
   | exact LeO.none _
   | refine LeO.ite ?_ ?_
   | refine LeO.bind ?_ (fun _ => ?_)
  ·intro y0 y1 y2 y3 y4 y5 y6
   unfold thicketlaw06_OrderOwn.l0
   repeat' first
   | (with_reducible exact ih0 _ _ _ _ _ _)
   | (with_reducible exact ih1 _ _ _ _ _ _ _)
   | (with_reducible exact ih2 _ _ _ _ _ _ _)
   | (with_reducible exact ih3 _ _ _ _ _ _ _)
   | (with_reducible exact ih4 _ _ _ _ _ _ _)
   | (with_reducible exact ih5 _ _ _ _ _ _)
   | (with_reducible exact order_Below.mono _ _ _)
   | (with_reducible exact thicketlaw06_list.mono _ _)
   | (with_reducible exact LeO.refl _)
   | (with_reducible exact LeO.none _)
   | (with_reducible refine LeO.ite ?_ ?_)
   | (with_reducible refine LeO.bind ?_ (fun _ => ?_))
   | exact ih0 _ _ _ _ _ _
   | exact ih1 _ _ _ _ _ _ _
   | exact ih2 _ _ _ _ _ _ _
   | exact ih3 _ _ _ _ _ _ _
   | exact ih4 _ _ _ _ _ _ _
   | exact ih5 _ _ _ _ _ _
   | exact order_Below.mono _ _ _
   | exact thicketlaw06_list.mono _ _
   | exact LeO.none _
   | refine LeO.ite ?_ ?_
   | refine LeO.bind ?_ (fun _ => ?_)
  ·intro y0 y1 y2 y3 y4 y5 y6
   unfold thicketlaw06_OrderOwn.l1
   repeat' first
   | (with_reducible exact ih0 _ _ _ _ _ _)
   | (with_reducible exact ih1 _ _ _ _ _ _ _)
   | (with_reducible exact ih2 _ _ _ _ _ _ _)
   | (with_reducible exact ih3 _ _ _ _ _ _ _)
   | (with_reducible exact ih4 _ _ _ _ _ _ _)
   | (with_reducible exact ih5 _ _ _ _ _ _)
   | (with_reducible exact order_Below.mono _ _ _)
   | (with_reducible exact thicketlaw06_list.mono _ _)
   | (with_reducible exact LeO.refl _)
   | (with_reducible exact LeO.none _)
   | (with_reducible refine LeO.ite ?_ ?_)
   | (with_reducible refine LeO.bind ?_ (fun _ => ?_))
   | exact ih0 _ _ _ _ _ _
   | exact ih1 _ _ _ _ _ _ _
   | exact ih2 _ _ _ _ _ _ _
   | exact ih3 _ _ _ _ _ _ _
   | exact ih4 _ _ _ _ _ _ _
   | exact ih5 _ _ _ _ _ _
   | exact order_Below.mono _ _ _
   | exact thicketlaw06_list.mono _ _
   | exact LeO.none _
   | refine LeO.ite ?_ ?_
   | refine LeO.bind ?_ (fun _ => ?_)
  ·intro y0 y1 y2 y3 y4 y5 y6
   unfold thicketlaw06_OrderOwn.l2
   repeat' first
   | (with_reducible exact ih0 _ _ _ _ _ _)
   | (with_reducible exact ih1 _ _ _ _ _ _ _)
   | (with_reducible exact ih2 _ _ _ _ _ _ _)
   | (with_reducible exact ih3 _ _ _ _ _ _ _)
   | (with_reducible exact ih4 _ _ _ _ _ _ _)
   | (with_reducible exact ih5 _ _ _ _ _ _)
   | (with_reducible exact order_Below.mono _ _ _)
   | (with_reducible exact thicketlaw06_list.mono _ _)
   | (with_reducible exact LeO.refl _)
   | (with_reducible exact LeO.none _)
   | (with_reducible refine LeO.ite ?_ ?_)
   | (with_reducible refine LeO.bind ?_ (fun _ => ?_))
   | exact ih0 _ _ _ _ _ _
   | exact ih1 _ _ _ _ _ _ _
   | exact ih2 _ _ _ _ _ _ _
   | exact ih3 _ _ _ _ _ _ _
   | exact ih4 _ _ _ _ _ _ _
   | exact ih5 _ _ _ _ _ _
   | exact order_Below.mono _ _ _
   | exact thicketlaw06_list.mono _ _
   | exact LeO.none _
   | refine LeO.ite ?_ ?_
   | refine LeO.bind ?_ (fun _ => ?_)
  ·intro y0 y1 y2 y3 y4 y5 y6
   unfold thicketlaw06_OrderOwn.l3
   repeat' first
   | (with_reducible exact ih0 _ _ _ _ _ _)
   | (with_reducible exact ih1 _ _ _ _ _ _ _)
   | (with_reducible exact ih2 _ _ _ _ _ _ _)
   | (with_reducible exact ih3 _ _ _ _ _ _ _)
   | (with_reducible exact ih4 _ _ _ _ _ _ _)
   | (with_reducible exact ih5 _ _ _ _ _ _)
   | (with_reducible exact order_Below.mono _ _ _)
   | (with_reducible exact thicketlaw06_list.mono _ _)
   | (with_reducible exact LeO.refl _)
   | (with_reducible exact LeO.none _)
   | (with_reducible refine LeO.ite ?_ ?_)
   | (with_reducible refine LeO.bind ?_ (fun _ => ?_))
   | exact ih0 _ _ _ _ _ _
   | exact ih1 _ _ _ _ _ _ _
   | exact ih2 _ _ _ _ _ _ _
   | exact ih3 _ _ _ _ _ _ _
   | exact ih4 _ _ _ _ _ _ _
   | exact ih5 _ _ _ _ _ _
   | exact order_Below.mono _ _ _
   | exact thicketlaw06_list.mono _ _
   | exact LeO.none _
   | refine LeO.ite ?_ ?_
   | refine LeO.bind ?_ (fun _ => ?_)
  ·intro y0 y1 y2 y3 y4 y5
   unfold thicketlaw06_OrderOwn.l4
   repeat' first
   | (with_reducible exact ih0 _ _ _ _ _ _)
   | (with_reducible exact ih1 _ _ _ _ _ _ _)
   | (with_reducible exact ih2 _ _ _ _ _ _ _)
   | (with_reducible exact ih3 _ _ _ _ _ _ _)
   | (with_reducible exact ih4 _ _ _ _ _ _ _)
   | (with_reducible exact ih5 _ _ _ _ _ _)
   | (with_reducible exact order_Below.mono _ _ _)
   | (with_reducible exact thicketlaw06_list.mono _ _)
   | (with_reducible exact LeO.refl _)
   | (with_reducible exact LeO.none _)
   | (with_reducible refine LeO.ite ?_ ?_)
   | (with_reducible refine LeO.bind ?_ (fun _ => ?_))
   | exact ih0 _ _ _ _ _ _
   | exact ih1 _ _ _ _ _ _ _
   | exact ih2 _ _ _ _ _ _ _
   | exact ih3 _ _ _ _ _ _ _
   | exact ih4 _ _ _ _ _ _ _
   | exact ih5 _ _ _ _ _ _
   | exact order_Below.mono _ _ _
   | exact thicketlaw06_list.mono _ _
   | exact LeO.none _
   | refine LeO.ite ?_ ?_
   | refine LeO.bind ?_ (fun _ => ?_)
theorem thicketlaw06_OrderOwn.mono : ∀ a0 k, LeO (thicketlaw06_OrderOwn.f k a0) (thicketlaw06_OrderOwn.f (k + 1) a0) := by
 intro a0 k
 obtain ⟨ih0, ih1, ih2, ih3, ih4, ih5⟩ := thicketlaw06_OrderOwn.mono_l k
 unfold thicketlaw06_OrderOwn.f
 repeat' first
   | (with_reducible exact ih0 _ _ _ _ _ _)
   | (with_reducible exact ih1 _ _ _ _ _ _ _)
   | (with_reducible exact ih2 _ _ _ _ _ _ _)
   | (with_reducible exact ih3 _ _ _ _ _ _ _)
   | (with_reducible exact ih4 _ _ _ _ _ _ _)
   | (with_reducible exact ih5 _ _ _ _ _ _)
   | (with_reducible exact order_Below.mono _ _ _)
   | (with_reducible exact thicketlaw06_list.mono _ _)
   | (with_reducible exact LeO.refl _)
   | (with_reducible exact LeO.none _)
   | (with_reducible refine LeO.ite ?_ ?_)
   | (with_reducible refine LeO.bind ?_ (fun _ => ?_))
   | exact ih0 _ _ _ _ _ _
   | exact ih1 _ _ _ _ _ _ _
   | exact ih2 _ _ _ _ _ _ _
   | exact ih3 _ _ _ _ _ _ _
   | exact ih4 _ _ _ _ _ _ _
   | exact ih5 _ _ _ _ _ _
   | exact order_Below.mono _ _ _
   | exact thicketlaw06_list.mono _ _
   | exact LeO.none _
   | refine LeO.ite ?_ ?_
   | refine LeO.bind ?_ (fun _ => ?_)
def thicketlaw06_OrderOwn.T33 : Bool × List (List Nat × List Nat) := (true, [([], []), ([], []), ([0, 1], [0, 1]), ([2], [2]), ([3], [3]), ([], []), ([], []), ([5, 6], [5, 6]), ([7], [7]), ([4, 8], [4, 8])])
def thicketlaw06_OrderOwn.B33 : List Nat := [0, 0, 3, 7, 15, 0, 0, 96, 224, 511]
theorem thicketlaw06_OrderOwn.tab33 : rtab .any (opsOf Try.f5 33) = thicketlaw06_OrderOwn.T33 := by kernel_rfl
theorem thicketlaw06_OrderOwn.bits33 : waitsOk thicketlaw06_OrderOwn.T33.2 thicketlaw06_OrderOwn.B33 = true := by kernel_rfl
set_option maxHeartbeats 8000000 in
set_option maxRecDepth 100000 in
theorem thicketlaw06_OrderOwn.calls (k : Nat) (A0 : Option Addr) (c0 : Nat) (l0 : List Int) (r : Bool) (w : World) (hr0 : Kd.C (Kd.int .u64) w A0 l0.length l0) (hc0 : l0.length ≤ c0) (h : thicketlaw06_OrderOwn.f k l0 = some r) :
  Calls Try.prog 5 #[.slice A0 l0.length c0] w fun e w' => e = .returned (.bool r) ∧ Below w.heap.size w w' := by
 have HR0 := Aside0.mk hr0
 have HC0 := Aside0.mk hc0
 clear hr0 hc0
 have HB := Aside0.mk (Below.refl w.heap.size w)
 have H : ((thicketlaw06_begins.f).bind fun t124 => (if t124 = true then ((thicketlaw06_list.f k l0).bind fun t125 => ((some (([4607182418800017408, 4611686018427387904] : List Nat) : List Nat)).bind fun y128 => (if t125.length + y128.length < 17592186044416 then ((some (t125 ++ y128 : List Nat)).bind fun y131 => ((order_Sorted.f y131).bind fun t134 => ((order_Sorted.f y131).bind fun t137 => ((order_Distinct.f y131).bind fun t140 => ((order_Distinct.f y131).bind fun t143 => (if (t134.length : Int) = (t137.length : Int) then (if (t140.length : Int) = (t143.length : Int) then (if (t134.length : Int) = (y131.length : Int) then (thicketlaw06_OrderOwn.j0 k y131 t134 t137 t140 t143 (decide ((t140.length : Int) < 2))) else (thicketlaw06_OrderOwn.j0 k y131 t134 t137 t140 t143 true)) else (thicketlaw06_OrderOwn.j0 k y131 t134 t137 t140 t143 true)) else (thicketlaw06_OrderOwn.j0 k y131 t134 t137 t140 t143 true))))))) else (none)))) else (some false))) = some r := h
 clear h
 replace H := Option.bind_eq_some_iff.mp H
 obtain ⟨t124, A20, H⟩ := H
 replace H : (if t124 = true then ((thicketlaw06_list.f k l0).bind fun t125 => ((some (([4607182418800017408, 4611686018427387904] : List Nat) : List Nat)).bind fun y128 => (if t125.length + y128.length < 17592186044416 then ((some (t125 ++ y128 : List Nat)).bind fun y131 => ((order_Sorted.f y131).bind fun t134 => ((order_Sorted.f y131).bind fun t137 => ((order_Distinct.f y131).bind fun t140 => ((order_Distinct.f y131).bind fun t143 => (if (t134.length : Int) = (t137.length : Int) then (if (t140.length : Int) = (t143.length : Int) then (if (t134.length : Int) = (y131.length : Int) then (thicketlaw06_OrderOwn.j0 k y131 t134 t137 t140 t143 (decide ((t140.length : Int) < 2))) else (thicketlaw06_OrderOwn.j0 k y131 t134 t137 t140 t143 true)) else (thicketlaw06_OrderOwn.j0 k y131 t134 t137 t140 t143 true)) else (thicketlaw06_OrderOwn.j0 k y131 t134 t137 t140 t143 true))))))) else (none)))) else (some false)) = some r := H
 have A2 := Aside0.mk A20
 clear A20
 by_cases c3 : t124 = true
 ·subst c3
  have H1 : ((thicketlaw06_list.f k l0).bind fun t125 => ((some (([4607182418800017408, 4611686018427387904] : List Nat) : List Nat)).bind fun y128 => (if t125.length + y128.length < 17592186044416 then ((some (t125 ++ y128 : List Nat)).bind fun y131 => ((order_Sorted.f y131).bind fun t134 => ((order_Sorted.f y131).bind fun t137 => ((order_Distinct.f y131).bind fun t140 => ((order_Distinct.f y131).bind fun t143 => (if (t134.length : Int) = (t137.length : Int) then (if (t140.length : Int) = (t143.length : Int) then (if (t134.length : Int) = (y131.length : Int) then (thicketlaw06_OrderOwn.j0 k y131 t134 t137 t140 t143 (decide ((t140.length : Int) < 2))) else (thicketlaw06_OrderOwn.j0 k y131 t134 t137 t140 t143 true)) else (thicketlaw06_OrderOwn.j0 k y131 t134 t137 t140 t143 true)) else (thicketlaw06_OrderOwn.j0 k y131 t134 t137 t140 t143 true))))))) else (none)))) = some r := by rw [if_pos rfl] at H; exact H
  clear H
  have H := H1
  clear H1
  replace H := Option.bind_eq_some_iff.mp H
  obtain ⟨t125, A40, H⟩ := H
  replace H : ((some (([4607182418800017408, 4611686018427387904] : List Nat) : List Nat)).bind fun y128 => (if t125.length + y128.length < 17592186044416 then ((some (t125 ++ y128 : List Nat)).bind fun y131 => ((order_Sorted.f y131).bind fun t134 => ((order_Sorted.f y131).bind fun t137 => ((order_Distinct.f y131).bind fun t140 => ((order_Distinct.f y131).bind fun t143 => (if (t134.length : Int) = (t137.length : Int) then (if (t140.length : Int) = (t143.length : Int) then (if (t134.length : Int) = (y131.length : Int) then (thicketlaw06_OrderOwn.j0 k y131 t134 t137 t140 t143 (decide ((t140.length : Int) < 2))) else (thicketlaw06_OrderOwn.j0 k y131 t134 t137 t140 t143 true)) else (thicketlaw06_OrderOwn.j0 k y131 t134 t137 t140 t143 true)) else (thicketlaw06_OrderOwn.j0 k y131 t134 t137 t140 t143 true))))))) else (none))) = some r := H
  have A4 := Aside0.mk A40
  clear A40
  obtain ⟨y128, hy128⟩ : ∃ y_ : List Nat, y_ = (([4607182418800017408, 4611686018427387904] : List Nat)) := ⟨_, rfl⟩
  replace H : (if t125.length + y128.length < 17592186044416 then ((some (t125 ++ y128 : List Nat)).bind fun y131 => ((order_Sorted.f y131).bind fun t134 => ((order_Sorted.f y131).bind fun t137 => ((order_Distinct.f y131).bind fun t140 => ((order_Distinct.f y131).bind fun t143 => (if (t134.length : Int) = (t137.length : Int) then (if (t140.length : Int) = (t143.length : Int) then (if (t134.length : Int) = (y131.length : Int) then (thicketlaw06_OrderOwn.j0 k y131 t134 t137 t140 t143 (decide ((t140.length : Int) < 2))) else (thicketlaw06_OrderOwn.j0 k y131 t134 t137 t140 t143 true)) else (thicketlaw06_OrderOwn.j0 k y131 t134 t137 t140 t143 true)) else (thicketlaw06_OrderOwn.j0 k y131 t134 t137 t140 t143 true))))))) else (none)) = some r := by first | (rw [hy128]; with_reducible exact H) | (have H2_ := (Option.bind_some _ _).symm.trans H; rw [hy128]; with_reducible exact H2_) | (have H2_ := (Option.bind_some _ _).symm.trans H; with_reducible exact H2_) | with_reducible exact H | (rw [hy128]; exact H) | exact H
  have Ny128 := Aside0.mk hy128
  clear hy128
  by_cases c5 : t125.length + y128.length < 17592186044416
  ·rw [if_pos c5] at H
   have LMc5 := Aside0.mk c5
   clear c5
   obtain ⟨y131, hy131⟩ : ∃ y_ : List Nat, y_ = (t125 ++ y128) := ⟨_, rfl⟩
   replace H : ((order_Sorted.f y131).bind fun t134 => ((order_Sorted.f y131).bind fun t137 => ((order_Distinct.f y131).bind fun t140 => ((order_Distinct.f y131).bind fun t143 => (if (t134.length : Int) = (t137.length : Int) then (if (t140.length : Int) = (t143.length : Int) then (if (t134.length : Int) = (y131.length : Int) then (thicketlaw06_OrderOwn.j0 k y131 t134 t137 t140 t143 (decide ((t140.length : Int) < 2))) else (thicketlaw06_OrderOwn.j0 k y131 t134 t137 t140 t143 true)) else (thicketlaw06_OrderOwn.j0 k y131 t134 t137 t140 t143 true)) else (thicketlaw06_OrderOwn.j0 k y131 t134 t137 t140 t143 true)))))) = some r := by first | (rw [hy131]; with_reducible exact H) | (have H2_ := (Option.bind_some _ _).symm.trans H; rw [hy131]; with_reducible exact H2_) | (have H2_ := (Option.bind_some _ _).symm.trans H; with_reducible exact H2_) | with_reducible exact H | (rw [hy131]; exact H) | exact H
   have Ny131 := Aside0.mk hy131
   clear hy131
   replace H := Option.bind_eq_some_iff.mp H
   obtain ⟨t134, A60, H⟩ := H
   replace H : ((order_Sorted.f y131).bind fun t137 => ((order_Distinct.f y131).bind fun t140 => ((order_Distinct.f y131).bind fun t143 => (if (t134.length : Int) = (t137.length : Int) then (if (t140.length : Int) = (t143.length : Int) then (if (t134.length : Int) = (y131.length : Int) then (thicketlaw06_OrderOwn.j0 k y131 t134 t137 t140 t143 (decide ((t140.length : Int) < 2))) else (thicketlaw06_OrderOwn.j0 k y131 t134 t137 t140 t143 true)) else (thicketlaw06_OrderOwn.j0 k y131 t134 t137 t140 t143 true)) else (thicketlaw06_OrderOwn.j0 k y131 t134 t137 t140 t143 true))))) = some r := H
   have A6 := Aside0.mk A60
   clear A60
   replace H := Option.bind_eq_some_iff.mp H
   obtain ⟨t137, A70, H⟩ := H
   replace H : ((order_Distinct.f y131).bind fun t140 => ((order_Distinct.f y131).bind fun t143 => (if (t134.length : Int) = (t137.length : Int) then (if (t140.length : Int) = (t143.length : Int) then (if (t134.length : Int) = (y131.length : Int) then (thicketlaw06_OrderOwn.j0 k y131 t134 t137 t140 t143 (decide ((t140.length : Int) < 2))) else (thicketlaw06_OrderOwn.j0 k y131 t134 t137 t140 t143 true)) else (thicketlaw06_OrderOwn.j0 k y131 t134 t137 t140 t143 true)) else (thicketlaw06_OrderOwn.j0 k y131 t134 t137 t140 t143 true)))) = some r := H
   have A7 := Aside0.mk A70
   clear A70
   replace H := Option.bind_eq_some_iff.mp H
   obtain ⟨t140, A80, H⟩ := H
   replace H : ((order_Distinct.f y131).bind fun t143 => (if (t134.length : Int) = (t137.length : Int) then (if (t140.length : Int) = (t143.length : Int) then (if (t134.length : Int) = (y131.length : Int) then (thicketlaw06_OrderOwn.j0 k y131 t134 t137 t140 t143 (decide ((t140.length : Int) < 2))) else (thicketlaw06_OrderOwn.j0 k y131 t134 t137 t140 t143 true)) else (thicketlaw06_OrderOwn.j0 k y131 t134 t137 t140 t143 true)) else (thicketlaw06_OrderOwn.j0 k y131 t134 t137 t140 t143 true))) = some r := H
   have A8 := Aside0.mk A80
   clear A80
   replace H := Option.bind_eq_some_iff.mp H
   obtain ⟨t143, A90, H⟩ := H
   replace H : (if (t134.length : Int) = (t137.length : Int) then (if (t140.length : Int) = (t143.length : Int) then (if (t134.length : Int) = (y131.length : Int) then (thicketlaw06_OrderOwn.j0 k y131 t134 t137 t140 t143 (decide ((t140.length : Int) < 2))) else (thicketlaw06_OrderOwn.j0 k y131 t134 t137 t140 t143 true)) else (thicketlaw06_OrderOwn.j0 k y131 t134 t137 t140 t143 true)) else (thicketlaw06_OrderOwn.j0 k y131 t134 t137 t140 t143 true)) = some r := H
   have A9 := Aside0.mk A90
   clear A90
   have HC10 := Aside0.mk H
   clear H
   go_enter Try.func5, Try.ntmps5
   go_upto_region 8 with (first | ((with_reducible refine gate_callee (f := 15) rfl ?_); refine goesL_ (some 15) rfl rfl Try.func15 (by kernel_rfl) rfl #[] rfl (by (try simp only [List.map_toArray, List.map_cons, List.map_nil]); first | done | rfl | (simp only [List.length_drop, List.length_take]; rfl)) ?_; (with_reducible refine (thicketlaw06_begins.calls  true _ A2.out).mono ?_); rintro e w' ⟨rfl, ⟨nd, rfl⟩⟩; refine ⟨_, rfl, ?_⟩) | ((with_reducible refine gate_callee (f := 6) rfl ?_); refine goesL_ (some 18) rfl rfl Try.func6 (by kernel_rfl) rfl #[.slice A0 l0.length c0] rfl (by (try simp only [List.map_toArray, List.map_cons, List.map_nil]); first | done | rfl | (simp only [List.length_drop, List.length_take]; rfl)) ?_; (with_reducible refine (thicketlaw06_list.calls k _ _ l0 t125 _ ?side1 ?side2 A4.out).mono ?_); (case side1 => repeat (first | exact HR0.out | (with_reducible refine Kd.C_alloc ?_ _) | (with_reducible refine Kd.C_drewN ?_ _) | (with_reducible refine Kd.C_drew ?_))); (case side2 => exact HC0.out); rintro e w11 ⟨v126, rfl, ho0, hb⟩; refine ⟨_, rfl, ?_⟩; have n0_ := Aside0.mk (Kd.R_lower ho0 (below_size (kB0 HB))); have n1_ := Aside0.mk (below_step (kB0 HB) hb); clear HB; have HO127 := n0_; have HB := n1_; clear n0_ n1_; (try clear hb); (try clear hb2); (try clear hk); (try clear hi); (try clear ho0)) | ((with_reducible refine gate_dst (N := 19) rfl ?_); (try (refine gate_guard (by rfl) ?_; dsimp only)); refine Kd.R_lit Kd.f64 _ 26 ?hg (N := 19) ?hd (xs := ([4607182418800017408, 4611686018427387904] : List Nat)) (inner := [.float .f64 4607182418800017408, .float .f64 4611686018427387904]) (ok := fun _ => True) (okp := fun _ => True) ?hr ?hp (fun _ hk => hk) trivial (Below.refl _ _) (Nat.le_refl _) (by simp) ?_; (case hd => rfl); (case hg => rfl); (case hr => first | (go_simp; done) | (go_simp; rfl)); (case hp => exact (Reps.one (show Kd.M Kd.f64 _ _ _ 4607182418800017408 [.float .f64 4607182418800017408] from rfl) (Reps.one (show Kd.M Kd.f64 _ _ _ 4611686018427387904 [.float .f64 4611686018427387904] from rfl) (Reps.none _ _)))); intro v129 w12 ho13 hb hg_ hnew_; clear hg_ hnew_; (first | rw [← Ny128.out] at ho13 | (simp only [Int.reduceToNat] at ho13; rw [← Ny128.out] at ho13)); have n0_ := Aside0.mk (Kd.R_elder' (kR HO127) (Kd.R_base ho13) hb); have n1_ := Aside0.mk (Kd.R_lower (Kd.R_new' ho13 (Kd.R_lt (kR HO127))) (below_size (kB0 HB))); have n2_ := Aside0.mk (below_step (kB0 HB) hb); clear HO127; clear HB; have HO127 := n0_; have HO130 := n1_; have HB := n2_; clear n0_ n1_ n2_; clear hb ho13; obtain ⟨Ao15, co15, eo15⟩ := Kd.R_slice HO130.out; subst eo15) | ((with_reducible refine gate_builtin (b := .append) (xs := #[.tmp 18, .tmp 19]) rfl ?_); (try (refine gate_guard (by rfl) ?_; dsimp only)); at_builtin; refine Kd.R_append_rows Kd.f64 (w0 := w) w.heap.size rfl (.tmp 18) (.tmp 19) 24 26 (.float .f64 0) 8 rfl Try.underlying24 info26 rfl (by decide) (by omega) v126 t125 y128 _ _ _ (fun k_ => some k_ ≠ (.slice Ao15 y128.length co15 : Value).ownBlock) (fun _ => False) rfl rfl ?aO ?aR (fun _ _ h => h) (fun _ h => h.elim) ?aF ?aB ?aS ?aL ?_; (case aR => repeat (first | exact (Kd.R_reads' HO130.out).2.2 | (with_reducible refine Kd.C_alloc ?_ _) | (with_reducible refine Kd.C_drewN ?_ _) | (with_reducible refine Kd.C_drew ?_))); (case aB => exact (kB0 HB)); (case aF => exact (fun k_ hk => Kd.fresh' (Kd.R_lt (kR HO130)) k_ hk)); (case aO => exact (by (with_reducible repeat (first | apply Kd.R_alloc | apply Kd.R_drewN | apply Kd.R_drew)); exact Kd.R_mono HO127.out (fun _ hk => hk.2))); (case aS => exact (below_size (kB0 HB))); (case aL => have := LMc5.out; omega); intro v132 w14 ho hb hg hat; rw [← Ny131.out] at ho; have n0_ := Aside0.mk (Kd.R_after (ok := (fun _ => True)) (kR HO130) hg hat); have n1_ := Aside0.mk (hb); have n2_ := Aside0.mk (ho); clear HO130; clear HB; clear HO127; have HO130 := n0_; have HB := n1_; have HO133 := n2_; clear n0_ n1_ n2_; clear ho hb hg hat; obtain ⟨Ao16, co16, eo16⟩ := Kd.R_slice HO133.out; subst eo16) | ((with_reducible refine gate_callee (f := 9) rfl ?_); refine goesL_ (some 22) rfl rfl Try.func9 (by kernel_rfl) rfl #[.slice Ao16 y131.length co16] rfl (by (try simp only [List.map_toArray, List.map_cons, List.map_nil]); first | done | rfl | (simp only [List.length_drop, List.length_take]; rfl)) ?_; (with_reducible refine (order_Sorted.calls _ _ y131 t134 _ ?side1 ?side2 A6.out).mono ?_); (case side1 => repeat (first | exact (Kd.R_reads' HO133.out).2.2 | (with_reducible refine Kd.C_alloc ?_ _) | (with_reducible refine Kd.C_drewN ?_ _) | (with_reducible refine Kd.C_drew ?_))); (case side2 => exact (Kd.R_reads' HO133.out).2.1); rintro e w17 ⟨v135, rfl, ho0, hb⟩; refine ⟨_, rfl, ?_⟩; have n0_ := Aside0.mk (Kd.R_elder' (kR HO130) (Kd.R_base ho0) hb); have n1_ := Aside0.mk (Kd.R_elder' (kR HO133) (Kd.R_base ho0) hb); have n2_ := Aside0.mk (Kd.R_lower (Kd.R_new' (Kd.R_new' ho0 (Kd.R_lt (kR HO130))) (Kd.R_lt (kR HO133))) (below_size (kB0 HB))); have n3_ := Aside0.mk (below_step (kB0 HB) hb); clear HO130; clear HO133; clear HB; have HO130 := n0_; have HO133 := n1_; have HO136 := n2_; have HB := n3_; clear n0_ n1_ n2_ n3_; (try clear hb); (try clear hb2); (try clear hk); (try clear hi); (try clear ho0)) | ((with_reducible refine gate_callee (f := 9) rfl ?_); refine goesL_ (some 24) rfl rfl Try.func9 (by kernel_rfl) rfl #[.slice Ao16 y131.length co16] rfl (by (try simp only [List.map_toArray, List.map_cons, List.map_nil]); first | done | rfl | (simp only [List.length_drop, List.length_take]; rfl)) ?_; (with_reducible refine (order_Sorted.calls _ _ y131 t137 _ ?side1 ?side2 A7.out).mono ?_); (case side1 => repeat (first | exact (Kd.R_reads' HO133.out).2.2 | (with_reducible refine Kd.C_alloc ?_ _) | (with_reducible refine Kd.C_drewN ?_ _) | (with_reducible refine Kd.C_drew ?_))); (case side2 => exact (Kd.R_reads' HO133.out).2.1); rintro e w18 ⟨v138, rfl, ho0, hb⟩; refine ⟨_, rfl, ?_⟩; have n0_ := Aside0.mk (Kd.R_elder' (kR HO130) (Kd.R_base ho0) hb); have n1_ := Aside0.mk (Kd.R_elder' (kR HO133) (Kd.R_base ho0) hb); have n2_ := Aside0.mk (Kd.R_elder' (kR HO136) (Kd.R_base ho0) hb); have n3_ := Aside0.mk (Kd.R_lower (Kd.R_new' (Kd.R_new' (Kd.R_new' ho0 (Kd.R_lt (kR HO130))) (Kd.R_lt (kR HO133))) (Kd.R_lt (kR HO136))) (below_size (kB0 HB))); have n4_ := Aside0.mk (below_step (kB0 HB) hb); clear HO130; clear HO133; clear HO136; clear HB; have HO130 := n0_; have HO133 := n1_; have HO136 := n2_; have HO139 := n3_; have HB := n4_; clear n0_ n1_ n2_ n3_ n4_; (try clear hb); (try clear hb2); (try clear hk); (try clear hi); (try clear ho0)) | ((with_reducible refine gate_callee (f := 11) rfl ?_); refine goesL_ (some 26) rfl rfl Try.func11 (by kernel_rfl) rfl #[.slice Ao16 y131.length co16] rfl (by (try simp only [List.map_toArray, List.map_cons, List.map_nil]); first | done | rfl | (simp only [List.length_drop, List.length_take]; rfl)) ?_; (with_reducible refine (order_Distinct.calls _ _ y131 t140 _ ?side1 ?side2 A8.out).mono ?_); (case side1 => repeat (first | exact (Kd.R_reads' HO133.out).2.2 | (with_reducible refine Kd.C_alloc ?_ _) | (with_reducible refine Kd.C_drewN ?_ _) | (with_reducible refine Kd.C_drew ?_))); (case side2 => exact (Kd.R_reads' HO133.out).2.1); rintro e w19 ⟨v141, rfl, ho0, hb⟩; refine ⟨_, rfl, ?_⟩; have n0_ := Aside0.mk (Kd.R_elder' (kR HO130) (Kd.R_base ho0) hb); have n1_ := Aside0.mk (Kd.R_elder' (kR HO133) (Kd.R_base ho0) hb); have n2_ := Aside0.mk (Kd.R_elder' (kR HO136) (Kd.R_base ho0) hb); have n3_ := Aside0.mk (Kd.R_elder' (kR HO139) (Kd.R_base ho0) hb); have n4_ := Aside0.mk (Kd.R_lower (Kd.R_new' (Kd.R_new' (Kd.R_new' (Kd.R_new' ho0 (Kd.R_lt (kR HO130))) (Kd.R_lt (kR HO133))) (Kd.R_lt (kR HO136))) (Kd.R_lt (kR HO139))) (below_size (kB0 HB))); have n5_ := Aside0.mk (below_step (kB0 HB) hb); clear HO130; clear HO133; clear HO136; clear HO139; clear HB; have HO130 := n0_; have HO133 := n1_; have HO136 := n2_; have HO139 := n3_; have HO142 := n4_; have HB := n5_; clear n0_ n1_ n2_ n3_ n4_ n5_; (try clear hb); (try clear hb2); (try clear hk); (try clear hi); (try clear ho0)) | ((with_reducible refine gate_callee (f := 11) rfl ?_); refine goesL_ (some 28) rfl rfl Try.func11 (by kernel_rfl) rfl #[.slice Ao16 y131.length co16] rfl (by (try simp only [List.map_toArray, List.map_cons, List.map_nil]); first | done | rfl | (simp only [List.length_drop, List.length_take]; rfl)) ?_; (with_reducible refine (order_Distinct.calls _ _ y131 t143 _ ?side1 ?side2 A9.out).mono ?_); (case side1 => repeat (first | exact (Kd.R_reads' HO133.out).2.2 | (with_reducible refine Kd.C_alloc ?_ _) | (with_reducible refine Kd.C_drewN ?_ _) | (with_reducible refine Kd.C_drew ?_))); (case side2 => exact (Kd.R_reads' HO133.out).2.1); rintro e w20 ⟨v144, rfl, ho0, hb⟩; refine ⟨_, rfl, ?_⟩; have n0_ := Aside0.mk (Kd.R_elder' (kR HO130) (Kd.R_base ho0) hb); have n1_ := Aside0.mk (Kd.R_elder' (kR HO133) (Kd.R_base ho0) hb); have n2_ := Aside0.mk (Kd.R_elder' (kR HO136) (Kd.R_base ho0) hb); have n3_ := Aside0.mk (Kd.R_elder' (kR HO139) (Kd.R_base ho0) hb); have n4_ := Aside0.mk (Kd.R_elder' (kR HO142) (Kd.R_base ho0) hb); have n5_ := Aside0.mk (Kd.R_lower (Kd.R_new' (Kd.R_new' (Kd.R_new' (Kd.R_new' (Kd.R_new' ho0 (Kd.R_lt (kR HO130))) (Kd.R_lt (kR HO133))) (Kd.R_lt (kR HO136))) (Kd.R_lt (kR HO139))) (Kd.R_lt (kR HO142))) (below_size (kB0 HB))); have n6_ := Aside0.mk (below_step (kB0 HB) hb); clear HO130; clear HO133; clear HO136; clear HO139; clear HO142; clear HB; have HO130 := n0_; have HO133 := n1_; have HO136 := n2_; have HO139 := n3_; have HO142 := n4_; have HO145 := n5_; have HB := n6_; clear n0_ n1_ n2_ n3_ n4_ n5_ n6_; (try clear hb); (try clear hb2); (try clear hk); (try clear hi); (try clear ho0)))
   (try simp only [Act.put, List.setIfInBounds_toArray, List.set_cons_zero, List.set_cons_succ])
   go_cut [52] (fun v52 wc => ∃ (kq : Nat) (x52_9 : Bool), v52 = .bool x52_9 ∧ Aside0 (thicketlaw06_OrderOwn.j0 kq y131 t134 t137 t140 t143 x52_9 = some r) ∧ Aside0 (kq ≤ k) ∧ Aside0 (Kd.R Kd.f64 26 wc w.heap.size (fun k_ => some k_ ≠ (v135 : Value).ownBlock ∧ some k_ ≠ (v138 : Value).ownBlock ∧ some k_ ≠ (v141 : Value).ownBlock ∧ some k_ ≠ (v144 : Value).ownBlock) (.slice Ao16 y131.length co16) y131) ∧ Aside0 (Kd.R Kd.f64 26 wc w.heap.size (fun k_ => some k_ ≠ ((.slice Ao16 y131.length co16) : Value).ownBlock ∧ some k_ ≠ (v138 : Value).ownBlock ∧ some k_ ≠ (v141 : Value).ownBlock ∧ some k_ ≠ (v144 : Value).ownBlock) v135 t134) ∧ Aside0 (Kd.R Kd.f64 26 wc w.heap.size (fun k_ => some k_ ≠ ((.slice Ao16 y131.length co16) : Value).ownBlock ∧ some k_ ≠ (v135 : Value).ownBlock ∧ some k_ ≠ (v141 : Value).ownBlock ∧ some k_ ≠ (v144 : Value).ownBlock) v138 t137) ∧ Aside0 (Kd.R Kd.f64 26 wc w.heap.size (fun k_ => some k_ ≠ ((.slice Ao16 y131.length co16) : Value).ownBlock ∧ some k_ ≠ (v135 : Value).ownBlock ∧ some k_ ≠ (v138 : Value).ownBlock ∧ some k_ ≠ (v144 : Value).ownBlock) v141 t140) ∧ Aside0 (Kd.R Kd.f64 26 wc w.heap.size (fun k_ => some k_ ≠ ((.slice Ao16 y131.length co16) : Value).ownBlock ∧ some k_ ≠ (v135 : Value).ownBlock ∧ some k_ ≠ (v138 : Value).ownBlock ∧ some k_ ≠ (v141 : Value).ownBlock) v144 t143) ∧ Aside0 (Below w.heap.size w wc))
   case first =>
    have H := HC10.out
    clear HC10
    by_cases c21 : (t134.length : Int) = (t137.length : Int)
    ·rw [if_pos c21] at H
     have c21b0 : ((t134.length : Int) == (t137.length : Int)) = true := beq_iff_eq.mpr c21
     have c21b1 : ((t134.length : Int) != (t137.length : Int)) = false := bne_eq_false_iff_eq.mpr c21
     have c21b2 : (t134.length == t137.length) = true := by first | simpa using c21 | (simp at c21 ⊢; omega)
     clear c21
     (first | rw [c21b0] | (simp only [i64_w, i32_w]; rw [c21b0]) | skip)
     by_cases c22 : (t140.length : Int) = (t143.length : Int)
     ·rw [if_pos c22] at H
      have c22b0 : ((t140.length : Int) == (t143.length : Int)) = true := beq_iff_eq.mpr c22
      have c22b1 : ((t140.length : Int) != (t143.length : Int)) = false := bne_eq_false_iff_eq.mpr c22
      have c22b2 : (t140.length == t143.length) = true := by first | simpa using c22 | (simp at c22 ⊢; omega)
      clear c22
      by_cases c23 : (t134.length : Int) = (y131.length : Int)
      ·rw [if_pos c23] at H
       have c23b0 : ((t134.length : Int) == (y131.length : Int)) = true := beq_iff_eq.mpr c23
       have c23b1 : ((t134.length : Int) != (y131.length : Int)) = false := bne_eq_false_iff_eq.mpr c23
       have c23b2 : (t134.length == y131.length) = true := by first | simpa using c23 | (simp at c23 ⊢; omega)
       clear c23
       have H' := Aside0.mk H
       clear H
       obtain ⟨Ao24, co24, eo24⟩ := Kd.R_slice HO136.out
       subst eo24
       obtain ⟨Ao25, co25, eo25⟩ := Kd.R_slice HO139.out
       subst eo25
       obtain ⟨Ao26, co26, eo26⟩ := Kd.R_slice HO142.out
       subst eo26
       obtain ⟨Ao27, co27, eo27⟩ := Kd.R_slice HO145.out
       subst eo27
       go_wp2
       go_meet
       case rel => exact ⟨_, (decide ((t140.length : Int) < 2)), kr, H', ⟨ko⟩, ⟨by (with_reducible repeat (first | apply Kd.R_alloc | apply Kd.R_drewN | apply Kd.R_drew)); exact Kd.R_mono HO133.out (fun _ hk => ⟨hk.1.1.1.2, ⟨hk.1.1.2, ⟨hk.1.2, hk.2⟩⟩⟩)⟩, ⟨by (with_reducible repeat (first | apply Kd.R_alloc | apply Kd.R_drewN | apply Kd.R_drew)); exact Kd.R_mono HO136.out (fun _ hk => ⟨hk.1.1.1.2, ⟨hk.1.1.2, ⟨hk.1.2, hk.2⟩⟩⟩)⟩, ⟨by (with_reducible repeat (first | apply Kd.R_alloc | apply Kd.R_drewN | apply Kd.R_drew)); exact Kd.R_mono HO139.out (fun _ hk => ⟨hk.1.1.1.2, ⟨hk.1.1.2, ⟨hk.1.2, hk.2⟩⟩⟩)⟩, ⟨by (with_reducible repeat (first | apply Kd.R_alloc | apply Kd.R_drewN | apply Kd.R_drew)); exact Kd.R_mono HO142.out (fun _ hk => ⟨hk.1.1.1.2, ⟨hk.1.1.2, ⟨hk.1.2, hk.2⟩⟩⟩)⟩, ⟨by (with_reducible repeat (first | apply Kd.R_alloc | apply Kd.R_drewN | apply Kd.R_drew)); exact Kd.R_mono HO145.out (fun _ hk => ⟨hk.1.1.1.2, ⟨hk.1.1.2, ⟨hk.1.2, hk.2⟩⟩⟩)⟩, ⟨kB0 HB⟩⟩
      ·rw [if_neg c23] at H
       have c23b0 : ((t134.length : Int) == (y131.length : Int)) = false := beq_eq_false_iff_ne.mpr c23
       have c23b1 : ((t134.length : Int) != (y131.length : Int)) = true := bne_iff_ne.mpr c23
       have c23b2 : (t134.length == y131.length) = false := by first | simpa using c23 | (simp at c23 ⊢; omega)
       have H' := Aside0.mk H
       clear H
       obtain ⟨Ao28, co28, eo28⟩ := Kd.R_slice HO136.out
       subst eo28
       obtain ⟨Ao29, co29, eo29⟩ := Kd.R_slice HO139.out
       subst eo29
       obtain ⟨Ao30, co30, eo30⟩ := Kd.R_slice HO142.out
       subst eo30
       obtain ⟨Ao31, co31, eo31⟩ := Kd.R_slice HO145.out
       subst eo31
       go_wp2
       go_meet
       case rel => exact ⟨_, (true), kr, H', ⟨ko⟩, ⟨by (with_reducible repeat (first | apply Kd.R_alloc | apply Kd.R_drewN | apply Kd.R_drew)); exact Kd.R_mono HO133.out (fun _ hk => ⟨hk.1.1.1.2, ⟨hk.1.1.2, ⟨hk.1.2, hk.2⟩⟩⟩)⟩, ⟨by (with_reducible repeat (first | apply Kd.R_alloc | apply Kd.R_drewN | apply Kd.R_drew)); exact Kd.R_mono HO136.out (fun _ hk => ⟨hk.1.1.1.2, ⟨hk.1.1.2, ⟨hk.1.2, hk.2⟩⟩⟩)⟩, ⟨by (with_reducible repeat (first | apply Kd.R_alloc | apply Kd.R_drewN | apply Kd.R_drew)); exact Kd.R_mono HO139.out (fun _ hk => ⟨hk.1.1.1.2, ⟨hk.1.1.2, ⟨hk.1.2, hk.2⟩⟩⟩)⟩, ⟨by (with_reducible repeat (first | apply Kd.R_alloc | apply Kd.R_drewN | apply Kd.R_drew)); exact Kd.R_mono HO142.out (fun _ hk => ⟨hk.1.1.1.2, ⟨hk.1.1.2, ⟨hk.1.2, hk.2⟩⟩⟩)⟩, ⟨by (with_reducible repeat (first | apply Kd.R_alloc | apply Kd.R_drewN | apply Kd.R_drew)); exact Kd.R_mono HO145.out (fun _ hk => ⟨hk.1.1.1.2, ⟨hk.1.1.2, ⟨hk.1.2, hk.2⟩⟩⟩)⟩, ⟨kB0 HB⟩⟩
     ·rw [if_neg c22] at H
      have c22b0 : ((t140.length : Int) == (t143.length : Int)) = false := beq_eq_false_iff_ne.mpr c22
      have c22b1 : ((t140.length : Int) != (t143.length : Int)) = true := bne_iff_ne.mpr c22
      have c22b2 : (t140.length == t143.length) = false := by first | simpa using c22 | (simp at c22 ⊢; omega)
      have H' := Aside0.mk H
      clear H
      obtain ⟨Ao32, co32, eo32⟩ := Kd.R_slice HO136.out
      subst eo32
      obtain ⟨Ao33, co33, eo33⟩ := Kd.R_slice HO139.out
      subst eo33
      obtain ⟨Ao34, co34, eo34⟩ := Kd.R_slice HO142.out
      subst eo34
      obtain ⟨Ao35, co35, eo35⟩ := Kd.R_slice HO145.out
      subst eo35
      go_wp2
      go_meet
      case rel => exact ⟨_, (true), kr, H', ⟨ko⟩, ⟨by (with_reducible repeat (first | apply Kd.R_alloc | apply Kd.R_drewN | apply Kd.R_drew)); exact Kd.R_mono HO133.out (fun _ hk => ⟨hk.1.1.1.2, ⟨hk.1.1.2, ⟨hk.1.2, hk.2⟩⟩⟩)⟩, ⟨by (with_reducible repeat (first | apply Kd.R_alloc | apply Kd.R_drewN | apply Kd.R_drew)); exact Kd.R_mono HO136.out (fun _ hk => ⟨hk.1.1.1.2, ⟨hk.1.1.2, ⟨hk.1.2, hk.2⟩⟩⟩)⟩, ⟨by (with_reducible repeat (first | apply Kd.R_alloc | apply Kd.R_drewN | apply Kd.R_drew)); exact Kd.R_mono HO139.out (fun _ hk => ⟨hk.1.1.1.2, ⟨hk.1.1.2, ⟨hk.1.2, hk.2⟩⟩⟩)⟩, ⟨by (with_reducible repeat (first | apply Kd.R_alloc | apply Kd.R_drewN | apply Kd.R_drew)); exact Kd.R_mono HO142.out (fun _ hk => ⟨hk.1.1.1.2, ⟨hk.1.1.2, ⟨hk.1.2, hk.2⟩⟩⟩)⟩, ⟨by (with_reducible repeat (first | apply Kd.R_alloc | apply Kd.R_drewN | apply Kd.R_drew)); exact Kd.R_mono HO145.out (fun _ hk => ⟨hk.1.1.1.2, ⟨hk.1.1.2, ⟨hk.1.2, hk.2⟩⟩⟩)⟩, ⟨kB0 HB⟩⟩
    ·rw [if_neg c21] at H
     have c21b0 : ((t134.length : Int) == (t137.length : Int)) = false := beq_eq_false_iff_ne.mpr c21
     have c21b1 : ((t134.length : Int) != (t137.length : Int)) = true := bne_iff_ne.mpr c21
     have c21b2 : (t134.length == t137.length) = false := by first | simpa using c21 | (simp at c21 ⊢; omega)
     (first | rw [c21b0] | (simp only [i64_w, i32_w]; rw [c21b0]) | skip)
     have H' := Aside0.mk H
     clear H
     obtain ⟨Ao36, co36, eo36⟩ := Kd.R_slice HO136.out
     subst eo36
     obtain ⟨Ao37, co37, eo37⟩ := Kd.R_slice HO139.out
     subst eo37
     go_wp2
     go_meet
     case rel => exact ⟨_, (true), kr, H', ⟨ko⟩, ⟨by (with_reducible repeat (first | apply Kd.R_alloc | apply Kd.R_drewN | apply Kd.R_drew)); exact Kd.R_mono HO133.out (fun _ hk => ⟨hk.1.1.1.2, ⟨hk.1.1.2, ⟨hk.1.2, hk.2⟩⟩⟩)⟩, ⟨by (with_reducible repeat (first | apply Kd.R_alloc | apply Kd.R_drewN | apply Kd.R_drew)); exact Kd.R_mono HO136.out (fun _ hk => ⟨hk.1.1.1.2, ⟨hk.1.1.2, ⟨hk.1.2, hk.2⟩⟩⟩)⟩, ⟨by (with_reducible repeat (first | apply Kd.R_alloc | apply Kd.R_drewN | apply Kd.R_drew)); exact Kd.R_mono HO139.out (fun _ hk => ⟨hk.1.1.1.2, ⟨hk.1.1.2, ⟨hk.1.2, hk.2⟩⟩⟩)⟩, ⟨by (with_reducible repeat (first | apply Kd.R_alloc | apply Kd.R_drewN | apply Kd.R_drew)); exact Kd.R_mono HO142.out (fun _ hk => ⟨hk.1.1.1.2, ⟨hk.1.1.2, ⟨hk.1.2, hk.2⟩⟩⟩)⟩, ⟨by (with_reducible repeat (first | apply Kd.R_alloc | apply Kd.R_drewN | apply Kd.R_drew)); exact Kd.R_mono HO145.out (fun _ hk => ⟨hk.1.1.1.2, ⟨hk.1.1.2, ⟨hk.1.2, hk.2⟩⟩⟩)⟩, ⟨kB0 HB⟩⟩
   case rest =>
    clear HC10
    try clear c1
    try clear c2
    try clear p2
    try clear c3
    try clear c5
    try clear c6
    try clear c9
    try clear c11
    try clear c15
    try clear c21
    try clear c21b0
    try clear c21b1
    try clear c21b2
    try clear c22
    try clear c22b0
    try clear c22b1
    try clear c22b2
    try clear c23
    try clear c23b0
    try clear c23b1
    try clear c23b2
    obtain ⟨kq, x52_9, rfl, HA, HJ9, HO_3, HO_4, HO_5, HO_6, HO_7, HB⟩ := hcut
    cases kq with
    | zero => exact absurd HA.out (by simp [thicketlaw06_OrderOwn.j0])
    | succ kj9 =>
     have H := HA.out
     clear HA
     simp only [thicketlaw06_OrderOwn.j0] at H
     by_cases c38 : x52_9 = true
     ·subst c38
      have H1 : (some false) = some r := by rw [if_pos rfl] at H; exact H
      clear H
      have H := H1
      clear H1
      obtain rfl := Option.some.inj H
      go_wp2
      go_ret
      exact ⟨by first | rfl | (simp [errW_none, errW_some] <;> rfl) | (simp [*, errW_none, errW_some] <;> rfl), kB0 HB⟩
     ·replace c38 := Bool.eq_false_iff.mpr c38
      subst c38
      have H1 : (thicketlaw06_OrderOwn.l0 kj9 y131 t134 t137 t140 t143 ([] : List Int) 0) = some r := by rw [if_neg (show ¬ (false = true) by decide)] at H; exact H
      clear H
      have H := H1
      clear H1
      have H' := Aside0.mk H
      clear H
      go_wp2
      go_loopg [8, 9] kj9 (fun kq v8 v9 w' => ∃ (x8_2 : List Int) (x9_2 : Int), v9 = .int .i64 x9_2 ∧ Aside0 (thicketlaw06_OrderOwn.l0 kq y131 t134 t137 t140 t143 x8_2 x9_2 = some r) ∧ Aside0 (kq ≤ kj9) ∧ Aside0 (Kd.R Kd.f64 26 w' w.heap.size (fun k_ => some k_ ≠ (v135 : Value).ownBlock ∧ some k_ ≠ (v138 : Value).ownBlock ∧ some k_ ≠ (v141 : Value).ownBlock ∧ some k_ ≠ (v144 : Value).ownBlock) (.slice Ao16 y131.length co16) y131) ∧ Aside0 (Kd.R Kd.f64 26 w' w.heap.size (fun k_ => some k_ ≠ ((.slice Ao16 y131.length co16) : Value).ownBlock ∧ some k_ ≠ (v138 : Value).ownBlock ∧ some k_ ≠ (v141 : Value).ownBlock ∧ some k_ ≠ (v144 : Value).ownBlock) v135 t134) ∧ Aside0 (Kd.R Kd.f64 26 w' w.heap.size (fun k_ => some k_ ≠ ((.slice Ao16 y131.length co16) : Value).ownBlock ∧ some k_ ≠ (v135 : Value).ownBlock ∧ some k_ ≠ (v141 : Value).ownBlock ∧ some k_ ≠ (v144 : Value).ownBlock) v138 t137) ∧ Aside0 (Kd.R Kd.f64 26 w' w.heap.size (fun k_ => some k_ ≠ ((.slice Ao16 y131.length co16) : Value).ownBlock ∧ some k_ ≠ (v135 : Value).ownBlock ∧ some k_ ≠ (v138 : Value).ownBlock ∧ some k_ ≠ (v144 : Value).ownBlock) v141 t140) ∧ Aside0 (Kd.R Kd.f64 26 w' w.heap.size (fun k_ => some k_ ≠ ((.slice Ao16 y131.length co16) : Value).ownBlock ∧ some k_ ≠ (v135 : Value).ownBlock ∧ some k_ ≠ (v138 : Value).ownBlock ∧ some k_ ≠ (v141 : Value).ownBlock) v144 t143) ∧ Aside0 (Kd.R (Kd.int .u64) 23 w' w.heap.size (fun _ => True) v8 x8_2) ∧ Aside0 (Below w.heap.size w w'))
      case atStart => exact ⟨(([] : List Int)), (0), kr, H', ⟨Nat.le_refl _⟩, ⟨kR HO_3⟩, ⟨kR HO_4⟩, ⟨kR HO_5⟩, ⟨kR HO_6⟩, ⟨kR HO_7⟩, ⟨by first | exact Kd.R_nil _ _ _ _ _ | exact Kd.N_nil _ _ _ _ _ | exact Kd.V_nil _ _ _ _ _ | exact Kd.Q_nil _ _ _ _ _ | exact Kd.S_nil _ _ _ _ _⟩, ⟨kB0 HB⟩⟩
      case round =>
       clear H'
       try clear c1
       try clear c2
       try clear p2
       try clear c3
       try clear c5
       try clear c6
       try clear c9
       try clear c11
       try clear c15
       try clear c21
       try clear c21b0
       try clear c21b1
       try clear c21b2
       try clear c22
       try clear c22b0
       try clear c22b1
       try clear c22b2
       try clear c23
       try clear c23b0
       try clear c23b1
       try clear c23b2
       try clear c38
       obtain ⟨x8_2, x9_2, rfl, HA, HK2, HO_3, HO_4, HO_5, HO_6, HO_7, HO_8, HB⟩ := hrel
       cases gk with
       | zero => exact absurd HA.out (by simp [thicketlaw06_OrderOwn.l0])
       | succ k2 =>
        have H := HA.out
        clear HA
        simp only [thicketlaw06_OrderOwn.l0] at H
        by_cases c39 : x9_2 < (t137.length : Int)
        ·rw [if_pos c39] at H
         have c39b0 : decide (x9_2 < (t137.length : Int)) = true := decide_eq_true c39
         clear c39
         by_cases c40 : 0 ≤ x9_2
         ·rw [if_pos c40] at H
          have c40b0 : decide (0 ≤ x9_2) = true := decide_eq_true c40
          clear c40
          by_cases c41 : x8_2.length < 17592186044416
          ·rw [if_pos c41] at H
           have LMc41 := Aside0.mk c41
           clear c41
           obtain ⟨y147, hy147⟩ : ∃ y_ : List Int, y_ = (x8_2 ++ [f64bits (rdOf (0 : Nat) t137 x9_2)]) := ⟨_, rfl⟩
           replace H : (thicketlaw06_OrderOwn.l0 k2 y131 t134 t137 t140 t143 y147 (wrap64 (x9_2 + 1))) = some r := by first | (rw [hy147]; with_reducible exact H) | (have H2_ := (Option.bind_some _ _).symm.trans H; rw [hy147]; with_reducible exact H2_) | (have H2_ := (Option.bind_some _ _).symm.trans H; with_reducible exact H2_) | with_reducible exact H | (rw [hy147]; exact H) | exact H
           have Ny147 := Aside0.mk hy147
           clear hy147
           have H' := Aside0.mk H
           clear H
           obtain ⟨Ao42, co42, eo42⟩ := Kd.R_slice HO_5.out
           subst eo42
           have p146 : 0 ≤ (x9_2 : Int) := of_decide_eq_true ka
           have q146 : x9_2 < (t137.length : Int) := of_decide_eq_true ka
           obtain ⟨ad146, e146, hx146_0⟩ := Kd.at_f64 (Kd.R_reads' HO_5.out).2.2 x9_2 p146 q146
           cases e146
           replace p146 := eq_true p146
           replace q146 := eq_true q146
           go_wp2_with (first | ((with_reducible refine gate_builtin (b := .append) (xs := #[.tmp 59, .tmp 65]) rfl ?_); (try (refine gate_guard (by rfl) ?_; dsimp only)); at_builtin; refine Kd.R_append (Kd.int .u64) (w0 := w) w.heap.size rfl (.tmp 59) (.tmp 65) 22 23 (.int .u64 0) 8 rfl Try.underlying22 info23 rfl (by decide) (by omega) u8 x8_2 (f64bits (rdOf (0 : Nat) t137 x9_2)) [.int .u64 (f64bits (rdOf (0 : Nat) t137 x9_2))] (fun _ => True) (fun _ => False) rfl rfl ?aP (fun _ hk => hk.elim) ?aF ?aO ?aB ?aS ?aL ?_; (case aP => exact rfl); (case aB => exact (kB0 HB)); (case aF => exact (fun _ _ => trivial)); (case aO => exact (kR HO_8)); (case aS => exact (below_size (kB0 HB))); (case aL => have := LMc41.out; omega); intro v148 w43 ho hb hg hat; rw [← Ny147.out] at ho; have n0_ := Aside0.mk (Kd.R_over' (kR HO_3) (Kd.R_typed (kR HO_8)) (by decide) hg); have n1_ := Aside0.mk (Kd.R_over' (kR HO_4) (Kd.R_typed (kR HO_8)) (by decide) hg); have n2_ := Aside0.mk (Kd.R_over' (kR HO_5) (Kd.R_typed (kR HO_8)) (by decide) hg); have n3_ := Aside0.mk (Kd.R_over' (kR HO_6) (Kd.R_typed (kR HO_8)) (by decide) hg); have n4_ := Aside0.mk (Kd.R_over' (kR HO_7) (Kd.R_typed (kR HO_8)) (by decide) hg); have n5_ := Aside0.mk (hb); have n6_ := Aside0.mk (ho); clear HO_3; clear HO_4; clear HO_5; clear HO_6; clear HO_7; clear HB; clear HO_8; have HO_3 := n0_; have HO_4 := n1_; have HO_5 := n2_; have HO_6 := n3_; have HO_7 := n4_; have HB := n5_; have HO149 := n6_; clear n0_ n1_ n2_ n3_ n4_ n5_ n6_; clear ho hb hg hat))
           go_roundg k2
           case measure => have := HJ9.out; have := HK2.out; omega
           case rel => exact ⟨(y147), (wrap64 (x9_2 + 1)), kr, H', ⟨by have := HJ9.out; have := HK2.out; omega⟩, ⟨kR HO_3⟩, ⟨kR HO_4⟩, ⟨kR HO_5⟩, ⟨kR HO_6⟩, ⟨kR HO_7⟩, ⟨kR HO149⟩, ⟨kB0 HB⟩⟩
          ·rw [if_neg c41] at H
           exact absurd H (by simp)
         ·rw [if_neg c40] at H
          exact absurd H (by simp)
        ·rw [if_neg c39] at H
         have c39b0 : decide (x9_2 < (t137.length : Int)) = false := decide_eq_false c39
         clear c39
         have H' := Aside0.mk H
         clear H
         obtain ⟨Ao44, co44, eo44⟩ := Kd.R_slice HO_5.out
         subst eo44
         go_wp2
         go_loopg [8, 10] k2 (fun kq v8 v10 w' => ∃ (x8_3 : List Int) (x10_3 : Int), v10 = .int .i64 x10_3 ∧ Aside0 (thicketlaw06_OrderOwn.l1 kq y131 t134 t137 t140 t143 x8_3 x10_3 = some r) ∧ Aside0 (kq ≤ k2) ∧ Aside0 (Kd.R Kd.f64 26 w' w.heap.size (fun k_ => some k_ ≠ (v135 : Value).ownBlock ∧ some k_ ≠ ((.slice Ao44 t137.length co44) : Value).ownBlock ∧ some k_ ≠ (v141 : Value).ownBlock ∧ some k_ ≠ (v144 : Value).ownBlock) (.slice Ao16 y131.length co16) y131) ∧ Aside0 (Kd.R Kd.f64 26 w' w.heap.size (fun k_ => some k_ ≠ ((.slice Ao16 y131.length co16) : Value).ownBlock ∧ some k_ ≠ ((.slice Ao44 t137.length co44) : Value).ownBlock ∧ some k_ ≠ (v141 : Value).ownBlock ∧ some k_ ≠ (v144 : Value).ownBlock) v135 t134) ∧ Aside0 (Kd.R Kd.f64 26 w' w.heap.size (fun k_ => some k_ ≠ ((.slice Ao16 y131.length co16) : Value).ownBlock ∧ some k_ ≠ (v135 : Value).ownBlock ∧ some k_ ≠ (v141 : Value).ownBlock ∧ some k_ ≠ (v144 : Value).ownBlock) (.slice Ao44 t137.length co44) t137) ∧ Aside0 (Kd.R Kd.f64 26 w' w.heap.size (fun k_ => some k_ ≠ ((.slice Ao16 y131.length co16) : Value).ownBlock ∧ some k_ ≠ (v135 : Value).ownBlock ∧ some k_ ≠ ((.slice Ao44 t137.length co44) : Value).ownBlock ∧ some k_ ≠ (v144 : Value).ownBlock) v141 t140) ∧ Aside0 (Kd.R Kd.f64 26 w' w.heap.size (fun k_ => some k_ ≠ ((.slice Ao16 y131.length co16) : Value).ownBlock ∧ some k_ ≠ (v135 : Value).ownBlock ∧ some k_ ≠ ((.slice Ao44 t137.length co44) : Value).ownBlock ∧ some k_ ≠ (v141 : Value).ownBlock) v144 t143) ∧ Aside0 (Kd.R (Kd.int .u64) 23 w' w.heap.size (fun _ => True) v8 x8_3) ∧ Aside0 (Below w.heap.size w w'))
         case atStart => exact ⟨(x8_2), (0), kr, H', ⟨Nat.le_refl _⟩, ⟨kR HO_3⟩, ⟨kR HO_4⟩, ⟨kR HO_5⟩, ⟨kR HO_6⟩, ⟨kR HO_7⟩, ⟨kR HO_8⟩, ⟨kB0 HB⟩⟩
         case round =>
          clear H'
          try clear c1
          try clear p1
          try clear q1
          try clear hx1
          try clear c2
          try clear p2
          try clear c3
          try clear c4
          try clear c5
          try clear c6
          try clear p6
          try clear c9
          try clear c11
          try clear p14
          try clear q14
          try clear hx14
          try clear c15
          try clear c21
          try clear c21b0
          try clear c21b1
          try clear c21b2
          try clear c22
          try clear c22b0
          try clear c22b1
          try clear c22b2
          try clear c23
          try clear c23b0
          try clear c23b1
          try clear c23b2
          try clear c38
          try clear c39
          try clear c39b0
          try clear c40
          try clear c40b0
          try clear c41
          try clear hx146_0
          try clear p146
          try clear q146
          obtain ⟨x8_3, x10_3, rfl, HA, HK3, HO_3, HO_4, HO_5, HO_6, HO_7, HO_8, HB⟩ := hrel
          cases gk with
          | zero => exact absurd HA.out (by simp [thicketlaw06_OrderOwn.l1])
          | succ k3 =>
           have H := HA.out
           clear HA
           simp only [thicketlaw06_OrderOwn.l1] at H
           by_cases c45 : x10_3 < (t143.length : Int)
           ·rw [if_pos c45] at H
            have c45b0 : decide (x10_3 < (t143.length : Int)) = true := decide_eq_true c45
            clear c45
            by_cases c46 : 0 ≤ x10_3
            ·rw [if_pos c46] at H
             have c46b0 : decide (0 ≤ x10_3) = true := decide_eq_true c46
             clear c46
             by_cases c47 : x8_3.length < 17592186044416
             ·rw [if_pos c47] at H
              have LMc47 := Aside0.mk c47
              clear c47
              obtain ⟨y151, hy151⟩ : ∃ y_ : List Int, y_ = (x8_3 ++ [f64bits (rdOf (0 : Nat) t143 x10_3)]) := ⟨_, rfl⟩
              replace H : (thicketlaw06_OrderOwn.l1 k3 y131 t134 t137 t140 t143 y151 (wrap64 (x10_3 + 1))) = some r := by first | (rw [hy151]; with_reducible exact H) | (have H2_ := (Option.bind_some _ _).symm.trans H; rw [hy151]; with_reducible exact H2_) | (have H2_ := (Option.bind_some _ _).symm.trans H; with_reducible exact H2_) | with_reducible exact H | (rw [hy151]; exact H) | exact H
              have Ny151 := Aside0.mk hy151
              clear hy151
              have H' := Aside0.mk H
              clear H
              obtain ⟨Ao48, co48, eo48⟩ := Kd.R_slice HO_7.out
              subst eo48
              have p150 : 0 ≤ (x10_3 : Int) := of_decide_eq_true ka
              have q150 : x10_3 < (t143.length : Int) := of_decide_eq_true ka
              obtain ⟨ad150, e150, hx150_0⟩ := Kd.at_f64 (Kd.R_reads' HO_7.out).2.2 x10_3 p150 q150
              cases e150
              replace p150 := eq_true p150
              replace q150 := eq_true q150
              go_wp2_with (first | ((with_reducible refine gate_builtin (b := .append) (xs := #[.tmp 73, .tmp 79]) rfl ?_); (try (refine gate_guard (by rfl) ?_; dsimp only)); at_builtin; refine Kd.R_append (Kd.int .u64) (w0 := w) w.heap.size rfl (.tmp 73) (.tmp 79) 22 23 (.int .u64 0) 8 rfl Try.underlying22 info23 rfl (by decide) (by omega) u8 x8_3 (f64bits (rdOf (0 : Nat) t143 x10_3)) [.int .u64 (f64bits (rdOf (0 : Nat) t143 x10_3))] (fun _ => True) (fun _ => False) rfl rfl ?aP (fun _ hk => hk.elim) ?aF ?aO ?aB ?aS ?aL ?_; (case aP => exact rfl); (case aB => exact (kB0 HB)); (case aF => exact (fun _ _ => trivial)); (case aO => exact (kR HO_8)); (case aS => exact (below_size (kB0 HB))); (case aL => have := LMc47.out; omega); intro v152 w49 ho hb hg hat; rw [← Ny151.out] at ho; have n0_ := Aside0.mk (Kd.R_over' (kR HO_3) (Kd.R_typed (kR HO_8)) (by decide) hg); have n1_ := Aside0.mk (Kd.R_over' (kR HO_4) (Kd.R_typed (kR HO_8)) (by decide) hg); have n2_ := Aside0.mk (Kd.R_over' (kR HO_5) (Kd.R_typed (kR HO_8)) (by decide) hg); have n3_ := Aside0.mk (Kd.R_over' (kR HO_6) (Kd.R_typed (kR HO_8)) (by decide) hg); have n4_ := Aside0.mk (Kd.R_over' (kR HO_7) (Kd.R_typed (kR HO_8)) (by decide) hg); have n5_ := Aside0.mk (hb); have n6_ := Aside0.mk (ho); clear HO_3; clear HO_4; clear HO_5; clear HO_6; clear HO_7; clear HB; clear HO_8; have HO_3 := n0_; have HO_4 := n1_; have HO_5 := n2_; have HO_6 := n3_; have HO_7 := n4_; have HB := n5_; have HO153 := n6_; clear n0_ n1_ n2_ n3_ n4_ n5_ n6_; clear ho hb hg hat))
              go_roundg k3
              case measure => have := HJ9.out; have := HK2.out; have := HK3.out; omega
              case rel => exact ⟨(y151), (wrap64 (x10_3 + 1)), kr, H', ⟨by have := HJ9.out; have := HK2.out; have := HK3.out; omega⟩, ⟨kR HO_3⟩, ⟨kR HO_4⟩, ⟨kR HO_5⟩, ⟨kR HO_6⟩, ⟨kR HO_7⟩, ⟨kR HO153⟩, ⟨kB0 HB⟩⟩
             ·rw [if_neg c47] at H
              exact absurd H (by simp)
            ·rw [if_neg c46] at H
             exact absurd H (by simp)
           ·rw [if_neg c45] at H
            have c45b0 : decide (x10_3 < (t143.length : Int)) = false := decide_eq_false c45
            clear c45
            have H' := Aside0.mk H
            clear H
            obtain ⟨Ao50, co50, eo50⟩ := Kd.R_slice HO_7.out
            subst eo50
            go_wp2
            go_loopg [11] k3 (fun kq v11 w' => ∃ (x4_4 : List Nat) (x11_4 : Int), v11 = .int .i64 x11_4 ∧ Aside0 (thicketlaw06_OrderOwn.l2 kq y131 x4_4 t137 t140 t143 x8_3 x11_4 = some r) ∧ Aside0 (kq ≤ k3) ∧ Aside0 (Kd.R Kd.f64 26 w' w.heap.size (fun k_ => some k_ ≠ (v135 : Value).ownBlock ∧ some k_ ≠ ((.slice Ao44 t137.length co44) : Value).ownBlock ∧ some k_ ≠ (v141 : Value).ownBlock ∧ some k_ ≠ ((.slice Ao50 t143.length co50) : Value).ownBlock) (.slice Ao16 y131.length co16) y131) ∧ Aside0 (Kd.R Kd.f64 26 w' w.heap.size (fun k_ => some k_ ≠ ((.slice Ao16 y131.length co16) : Value).ownBlock ∧ some k_ ≠ ((.slice Ao44 t137.length co44) : Value).ownBlock ∧ some k_ ≠ (v141 : Value).ownBlock ∧ some k_ ≠ ((.slice Ao50 t143.length co50) : Value).ownBlock) v135 x4_4) ∧ Aside0 (Kd.R Kd.f64 26 w' w.heap.size (fun k_ => some k_ ≠ ((.slice Ao16 y131.length co16) : Value).ownBlock ∧ some k_ ≠ (v135 : Value).ownBlock ∧ some k_ ≠ (v141 : Value).ownBlock ∧ some k_ ≠ ((.slice Ao50 t143.length co50) : Value).ownBlock) (.slice Ao44 t137.length co44) t137) ∧ Aside0 (Kd.R Kd.f64 26 w' w.heap.size (fun k_ => some k_ ≠ ((.slice Ao16 y131.length co16) : Value).ownBlock ∧ some k_ ≠ (v135 : Value).ownBlock ∧ some k_ ≠ ((.slice Ao44 t137.length co44) : Value).ownBlock ∧ some k_ ≠ ((.slice Ao50 t143.length co50) : Value).ownBlock) v141 t140) ∧ Aside0 (Kd.R Kd.f64 26 w' w.heap.size (fun k_ => some k_ ≠ ((.slice Ao16 y131.length co16) : Value).ownBlock ∧ some k_ ≠ (v135 : Value).ownBlock ∧ some k_ ≠ ((.slice Ao44 t137.length co44) : Value).ownBlock ∧ some k_ ≠ (v141 : Value).ownBlock) (.slice Ao50 t143.length co50) t143) ∧ Aside0 (Kd.R (Kd.int .u64) 23 w' w.heap.size (fun _ => True) u8 x8_3) ∧ Aside0 (Below w.heap.size w w'))
            case atStart => exact ⟨(t134), (0), kr, H', ⟨Nat.le_refl _⟩, ⟨kR HO_3⟩, ⟨kR HO_4⟩, ⟨kR HO_5⟩, ⟨kR HO_6⟩, ⟨kR HO_7⟩, ⟨kR HO_8⟩, ⟨kB0 HB⟩⟩
            case round =>
             clear H'
             try clear c1
             try clear p1
             try clear q1
             try clear hx1
             try clear c2
             try clear p2
             try clear c3
             try clear c4
             try clear c5
             try clear c6
             try clear p6
             try clear c9
             try clear c11
             try clear p14
             try clear q14
             try clear hx14
             try clear c15
             try clear p15
             try clear q15
             try clear hx15
             try clear c21
             try clear c21b0
             try clear c21b1
             try clear c21b2
             try clear c22
             try clear c22b0
             try clear c22b1
             try clear c22b2
             try clear c23
             try clear c23b0
             try clear c23b1
             try clear c23b2
             try clear c38
             try clear c39
             try clear c39b0
             try clear c40
             try clear c40b0
             try clear c41
             try clear c45
             try clear c45b0
             try clear c46
             try clear c46b0
             try clear c47
             try clear hx146_0
             try clear hx150_0
             try clear p146
             try clear p150
             try clear q146
             try clear q150
             obtain ⟨x4_4, x11_4, rfl, HA, HK4, HO_3, HO_4, HO_5, HO_6, HO_7, HO_8, HB⟩ := hrel
             cases gk with
             | zero => exact absurd HA.out (by simp [thicketlaw06_OrderOwn.l2])
             | succ k4 =>
              have H := HA.out
              clear HA
              simp only [thicketlaw06_OrderOwn.l2] at H
              by_cases c51 : x11_4 < (x4_4.length : Int)
              ·rw [if_pos c51] at H
               have c51b0 : decide (x11_4 < (x4_4.length : Int)) = true := decide_eq_true c51
               clear c51
               by_cases c52 : 0 ≤ x11_4
               ·rw [if_pos c52] at H
                have c52b0 : decide (0 ≤ x11_4) = true := decide_eq_true c52
                clear c52
                obtain ⟨y154, hy154⟩ : ∃ y_ : List Nat, y_ = (x4_4.set (x11_4 : Int).toNat 13837309855095848960) := ⟨_, rfl⟩
                replace H : (thicketlaw06_OrderOwn.l2 k4 y131 y154 t137 t140 t143 x8_3 (wrap64 (x11_4 + 1))) = some r := by first | (rw [hy154]; with_reducible exact H) | (have H2_ := (Option.bind_some _ _).symm.trans H; rw [hy154]; with_reducible exact H2_) | (have H2_ := (Option.bind_some _ _).symm.trans H; with_reducible exact H2_) | with_reducible exact H | (rw [hy154]; exact H) | exact H
                have Ny154 := Aside0.mk hy154
                clear hy154
                have H' := Aside0.mk H
                clear H
                obtain ⟨Ao54, co54, eo54⟩ := Kd.R_slice HO_4.out
                subst eo54
                have p53 : 0 ≤ (x11_4 : Int) := of_decide_eq_true ka
                have q53 : (x11_4 : Int) < ((x4_4.length : Int) : Int) := of_decide_eq_true ka
                obtain ⟨go53, co53, eo53, gb53, gl53, cl53, HG53⟩ := Kd.R_form HO_4.out (by omega)
                (first | cases eo53 | (injection eo53 with ea_ en_ ec_; (first | subst ea_ | (injection ea_ with ea_; subst ea_)); subst ec_; clear en_))
                have GB53 := Aside0.mk gb53
                have GG53 := Aside0.mk HG53
                clear gb53 gl53 HG53
                obtain ⟨hx53_0, hf53_0⟩ := Kd.R_celln (0 : Nat) HO_4.out (x11_4 : Int) p53 q53
                replace p53 := eq_true p53
                replace q53 := eq_true q53
                have HP55 := Kd.R_putg HO_4.out (x11_4 : Int) 13837309855095848960
                go_wp2_with (first | ((with_reducible refine gate_store (t := 26) (p := 89) rfl ?_); refine store_event (t := 26) (p := 89) (v := ?vo_w56) (w1 := (wr.setCell ⟨go53, (x11_4 : Int).toNat, none⟩ (.float .f64 13837309855095848960))) ?hg ?ho ?hn ?hr ?_; (case ho => rfl); (case hg => rfl); (case hn => rfl); (case hr => first | (go_simp; done) | (go_simp; rfl)); intro w56 hw; have hg : wr.grownBy w56 (some go53) := (by rw [hw]; exact HP55.2); have hp_ : Kd.R Kd.f64 26 w56 w.heap.size (fun k_ => some k_ ≠ (.slice Ao16 y131.length co16 : Value).ownBlock ∧ some k_ ≠ (.slice Ao44 t137.length co44 : Value).ownBlock ∧ some k_ ≠ (v141 : Value).ownBlock ∧ some k_ ≠ (.slice Ao50 t143.length co50 : Value).ownBlock) (.slice (some ⟨go53, 0, none⟩) x4_4.length co54) y154 := (by rw [hw, Ny154.out]; exact HP55.1); clear HP55; have n0_ := Aside0.mk (Kd.R_after (v := (.slice (some ⟨go53, 0, none⟩) x4_4.length co54)) (v1 := (.slice (some ⟨go53, 0, none⟩) x4_4.length co54)) (ok := (fun k_ => some k_ ≠ (.slice Ao44 t137.length co44 : Value).ownBlock ∧ some k_ ≠ (v141 : Value).ownBlock ∧ some k_ ≠ (.slice Ao50 t143.length co50 : Value).ownBlock)) (by (with_reducible repeat (first | apply Kd.R_alloc | apply Kd.R_drewN | apply Kd.R_drew)); exact Kd.R_mono HO_3.out (fun _ hk => ⟨⟨hk.2.1, ⟨hk.2.2.1, hk.2.2.2⟩⟩, hk.1⟩)) hg (.inl rfl)); have n1_ := Aside0.mk (hp_); have n2_ := Aside0.mk (Kd.R_after (v := (.slice (some ⟨go53, 0, none⟩) x4_4.length co54)) (v1 := (.slice (some ⟨go53, 0, none⟩) x4_4.length co54)) (ok := (fun k_ => some k_ ≠ (.slice Ao16 y131.length co16 : Value).ownBlock ∧ some k_ ≠ (v141 : Value).ownBlock ∧ some k_ ≠ (.slice Ao50 t143.length co50 : Value).ownBlock)) (by (with_reducible repeat (first | apply Kd.R_alloc | apply Kd.R_drewN | apply Kd.R_drew)); exact Kd.R_mono HO_5.out (fun _ hk => ⟨⟨hk.1, ⟨hk.2.2.1, hk.2.2.2⟩⟩, hk.2.1⟩)) hg (.inl rfl)); have n3_ := Aside0.mk (Kd.R_after (v := (.slice (some ⟨go53, 0, none⟩) x4_4.length co54)) (v1 := (.slice (some ⟨go53, 0, none⟩) x4_4.length co54)) (ok := (fun k_ => some k_ ≠ (.slice Ao16 y131.length co16 : Value).ownBlock ∧ some k_ ≠ (.slice Ao44 t137.length co44 : Value).ownBlock ∧ some k_ ≠ (.slice Ao50 t143.length co50 : Value).ownBlock)) (by (with_reducible repeat (first | apply Kd.R_alloc | apply Kd.R_drewN | apply Kd.R_drew)); exact Kd.R_mono HO_6.out (fun _ hk => ⟨⟨hk.1, ⟨hk.2.2.1, hk.2.2.2⟩⟩, hk.2.1⟩)) hg (.inl rfl)); have n4_ := Aside0.mk (Kd.R_after (v := (.slice (some ⟨go53, 0, none⟩) x4_4.length co54)) (v1 := (.slice (some ⟨go53, 0, none⟩) x4_4.length co54)) (ok := (fun k_ => some k_ ≠ (.slice Ao16 y131.length co16 : Value).ownBlock ∧ some k_ ≠ (.slice Ao44 t137.length co44 : Value).ownBlock ∧ some k_ ≠ (v141 : Value).ownBlock)) (by (with_reducible repeat (first | apply Kd.R_alloc | apply Kd.R_drewN | apply Kd.R_drew)); exact Kd.R_mono HO_7.out (fun _ hk => ⟨⟨hk.1, ⟨hk.2.2.1, hk.2.2.2⟩⟩, hk.2.1⟩)) hg (.inl rfl)); have n5_ := Aside0.mk (Kd.R_over' (v := (.slice (some ⟨go53, 0, none⟩) x4_4.length co54)) (kR HO_8) (Kd.R_typed HO_4.out) (by decide) hg); have n6_ := Aside0.mk ((by rw [hw]; exact below_set (HB.out) GB53.out : Below w.heap.size w w56)); clear HO_3; clear HO_4; clear HO_5; clear HO_6; clear HO_7; clear HO_8; clear HB; have HO_3 := n0_; have HO_4 := n1_; have HO_5 := n2_; have HO_6 := n3_; have HO_7 := n4_; have HO_8 := n5_; have HB := n6_; clear n0_ n1_ n2_ n3_ n4_ n5_ n6_; clear hg hw hp_))
                go_roundg k4
                case measure => have := HJ9.out; have := HK2.out; have := HK3.out; have := HK4.out; omega
                case rel => exact ⟨(y154), (wrap64 (x11_4 + 1)), kr, H', ⟨by have := HJ9.out; have := HK2.out; have := HK3.out; have := HK4.out; omega⟩, ⟨by (with_reducible repeat (first | apply Kd.R_alloc | apply Kd.R_drewN | apply Kd.R_drew)); exact Kd.R_mono HO_3.out (fun _ hk => ⟨hk.2, ⟨hk.1.1, ⟨hk.1.2.1, hk.1.2.2⟩⟩⟩)⟩, ⟨kR HO_4⟩, ⟨by (with_reducible repeat (first | apply Kd.R_alloc | apply Kd.R_drewN | apply Kd.R_drew)); exact Kd.R_mono HO_5.out (fun _ hk => ⟨hk.1.1, ⟨hk.2, ⟨hk.1.2.1, hk.1.2.2⟩⟩⟩)⟩, ⟨by (with_reducible repeat (first | apply Kd.R_alloc | apply Kd.R_drewN | apply Kd.R_drew)); exact Kd.R_mono HO_6.out (fun _ hk => ⟨hk.1.1, ⟨hk.2, ⟨hk.1.2.1, hk.1.2.2⟩⟩⟩)⟩, ⟨by (with_reducible repeat (first | apply Kd.R_alloc | apply Kd.R_drewN | apply Kd.R_drew)); exact Kd.R_mono HO_7.out (fun _ hk => ⟨hk.1.1, ⟨hk.2, ⟨hk.1.2.1, hk.1.2.2⟩⟩⟩)⟩, ⟨kR HO_8⟩, ⟨kB0 HB⟩⟩
               ·rw [if_neg c52] at H
                exact absurd H (by simp)
              ·rw [if_neg c51] at H
               have c51b0 : decide (x11_4 < (x4_4.length : Int)) = false := decide_eq_false c51
               clear c51
               have H' := Aside0.mk H
               clear H
               obtain ⟨Ao57, co57, eo57⟩ := Kd.R_slice HO_4.out
               subst eo57
               go_wp2
               go_loopg [12] k4 (fun kq v12 w' => ∃ (x6_5 : List Nat) (x12_5 : Int), v12 = .int .i64 x12_5 ∧ Aside0 (thicketlaw06_OrderOwn.l3 kq y131 x4_4 t137 x6_5 t143 x8_3 x12_5 = some r) ∧ Aside0 (kq ≤ k4) ∧ Aside0 (Kd.R Kd.f64 26 w' w.heap.size (fun k_ => some k_ ≠ ((.slice Ao57 x4_4.length co57) : Value).ownBlock ∧ some k_ ≠ ((.slice Ao44 t137.length co44) : Value).ownBlock ∧ some k_ ≠ (v141 : Value).ownBlock ∧ some k_ ≠ ((.slice Ao50 t143.length co50) : Value).ownBlock) (.slice Ao16 y131.length co16) y131) ∧ Aside0 (Kd.R Kd.f64 26 w' w.heap.size (fun k_ => some k_ ≠ ((.slice Ao16 y131.length co16) : Value).ownBlock ∧ some k_ ≠ ((.slice Ao44 t137.length co44) : Value).ownBlock ∧ some k_ ≠ (v141 : Value).ownBlock ∧ some k_ ≠ ((.slice Ao50 t143.length co50) : Value).ownBlock) (.slice Ao57 x4_4.length co57) x4_4) ∧ Aside0 (Kd.R Kd.f64 26 w' w.heap.size (fun k_ => some k_ ≠ ((.slice Ao16 y131.length co16) : Value).ownBlock ∧ some k_ ≠ ((.slice Ao57 x4_4.length co57) : Value).ownBlock ∧ some k_ ≠ (v141 : Value).ownBlock ∧ some k_ ≠ ((.slice Ao50 t143.length co50) : Value).ownBlock) (.slice Ao44 t137.length co44) t137) ∧ Aside0 (Kd.R Kd.f64 26 w' w.heap.size (fun k_ => some k_ ≠ ((.slice Ao16 y131.length co16) : Value).ownBlock ∧ some k_ ≠ ((.slice Ao57 x4_4.length co57) : Value).ownBlock ∧ some k_ ≠ ((.slice Ao44 t137.length co44) : Value).ownBlock ∧ some k_ ≠ ((.slice Ao50 t143.length co50) : Value).ownBlock) v141 x6_5) ∧ Aside0 (Kd.R Kd.f64 26 w' w.heap.size (fun k_ => some k_ ≠ ((.slice Ao16 y131.length co16) : Value).ownBlock ∧ some k_ ≠ ((.slice Ao57 x4_4.length co57) : Value).ownBlock ∧ some k_ ≠ ((.slice Ao44 t137.length co44) : Value).ownBlock ∧ some k_ ≠ (v141 : Value).ownBlock) (.slice Ao50 t143.length co50) t143) ∧ Aside0 (Kd.R (Kd.int .u64) 23 w' w.heap.size (fun _ => True) u8 x8_3) ∧ Aside0 (Below w.heap.size w w'))
               case atStart => exact ⟨(t140), (0), kr, H', ⟨Nat.le_refl _⟩, ⟨kR HO_3⟩, ⟨kR HO_4⟩, ⟨kR HO_5⟩, ⟨kR HO_6⟩, ⟨kR HO_7⟩, ⟨kR HO_8⟩, ⟨kB0 HB⟩⟩
               case round =>
                clear H'
                try clear c1
                try clear p1
                try clear q1
                try clear hx1
                try clear c2
                try clear p2
                try clear c3
                try clear c4
                try clear c5
                try clear p5
                try clear q5
                try clear hx5
                try clear hf5
                try clear c6
                try clear p6
                try clear c9
                try clear c11
                try clear p14
                try clear q14
                try clear hx14
                try clear c15
                try clear p15
                try clear q15
                try clear hx15
                try clear c21
                try clear c21b0
                try clear c21b1
                try clear c21b2
                try clear c22
                try clear c22b0
                try clear c22b1
                try clear c22b2
                try clear c23
                try clear c23b0
                try clear c23b1
                try clear c23b2
                try clear c38
                try clear c39
                try clear c39b0
                try clear c40
                try clear c40b0
                try clear c41
                try clear c45
                try clear c45b0
                try clear c46
                try clear c46b0
                try clear c47
                try clear c51
                try clear c51b0
                try clear c52
                try clear c52b0
                try clear p53
                try clear q53
                try clear hx53
                try clear hf53
                try clear hx146_0
                try clear hx150_0
                try clear hx53_0
                try clear p146
                try clear p150
                try clear q146
                try clear q150
                obtain ⟨x6_5, x12_5, rfl, HA, HK5, HO_3, HO_4, HO_5, HO_6, HO_7, HO_8, HB⟩ := hrel
                cases gk with
                | zero => exact absurd HA.out (by simp [thicketlaw06_OrderOwn.l3])
                | succ k5 =>
                 have H := HA.out
                 clear HA
                 simp only [thicketlaw06_OrderOwn.l3] at H
                 by_cases c58 : x12_5 < (x6_5.length : Int)
                 ·rw [if_pos c58] at H
                  have c58b0 : decide (x12_5 < (x6_5.length : Int)) = true := decide_eq_true c58
                  clear c58
                  by_cases c59 : 0 ≤ x12_5
                  ·rw [if_pos c59] at H
                   have c59b0 : decide (0 ≤ x12_5) = true := decide_eq_true c59
                   clear c59
                   obtain ⟨y155, hy155⟩ : ∃ y_ : List Nat, y_ = (x6_5.set (x12_5 : Int).toNat 13839561654909534208) := ⟨_, rfl⟩
                   replace H : (thicketlaw06_OrderOwn.l3 k5 y131 x4_4 t137 y155 t143 x8_3 (wrap64 (x12_5 + 1))) = some r := by first | (rw [hy155]; with_reducible exact H) | (have H2_ := (Option.bind_some _ _).symm.trans H; rw [hy155]; with_reducible exact H2_) | (have H2_ := (Option.bind_some _ _).symm.trans H; with_reducible exact H2_) | with_reducible exact H | (rw [hy155]; exact H) | exact H
                   have Ny155 := Aside0.mk hy155
                   clear hy155
                   have H' := Aside0.mk H
                   clear H
                   obtain ⟨Ao61, co61, eo61⟩ := Kd.R_slice HO_6.out
                   subst eo61
                   have p60 : 0 ≤ (x12_5 : Int) := of_decide_eq_true ka
                   have q60 : (x12_5 : Int) < ((x6_5.length : Int) : Int) := of_decide_eq_true ka
                   obtain ⟨go60, co60, eo60, gb60, gl60, cl60, HG60⟩ := Kd.R_form HO_6.out (by omega)
                   (first | cases eo60 | (injection eo60 with ea_ en_ ec_; (first | subst ea_ | (injection ea_ with ea_; subst ea_)); subst ec_; clear en_))
                   have GB60 := Aside0.mk gb60
                   have GG60 := Aside0.mk HG60
                   clear gb60 gl60 HG60
                   obtain ⟨hx60_0, hf60_0⟩ := Kd.R_celln (0 : Nat) HO_6.out (x12_5 : Int) p60 q60
                   replace p60 := eq_true p60
                   replace q60 := eq_true q60
                   have HP62 := Kd.R_putg HO_6.out (x12_5 : Int) 13839561654909534208
                   go_wp2_with (first | ((with_reducible refine gate_store (t := 26) (p := 98) rfl ?_); refine store_event (t := 26) (p := 98) (v := ?vo_w63) (w1 := (wr.setCell ⟨go60, (x12_5 : Int).toNat, none⟩ (.float .f64 13839561654909534208))) ?hg ?ho ?hn ?hr ?_; (case ho => rfl); (case hg => rfl); (case hn => rfl); (case hr => first | (go_simp; done) | (go_simp; rfl)); intro w63 hw; have hg : wr.grownBy w63 (some go60) := (by rw [hw]; exact HP62.2); have hp_ : Kd.R Kd.f64 26 w63 w.heap.size (fun k_ => some k_ ≠ (.slice Ao16 y131.length co16 : Value).ownBlock ∧ some k_ ≠ (.slice Ao57 x4_4.length co57 : Value).ownBlock ∧ some k_ ≠ (.slice Ao44 t137.length co44 : Value).ownBlock ∧ some k_ ≠ (.slice Ao50 t143.length co50 : Value).ownBlock) (.slice (some ⟨go60, 0, none⟩) x6_5.length co61) y155 := (by rw [hw, Ny155.out]; exact HP62.1); clear HP62; have n0_ := Aside0.mk (Kd.R_after (v := (.slice (some ⟨go60, 0, none⟩) x6_5.length co61)) (v1 := (.slice (some ⟨go60, 0, none⟩) x6_5.length co61)) (ok := (fun k_ => some k_ ≠ (.slice Ao57 x4_4.length co57 : Value).ownBlock ∧ some k_ ≠ (.slice Ao44 t137.length co44 : Value).ownBlock ∧ some k_ ≠ (.slice Ao50 t143.length co50 : Value).ownBlock)) (by (with_reducible repeat (first | apply Kd.R_alloc | apply Kd.R_drewN | apply Kd.R_drew)); exact Kd.R_mono HO_3.out (fun _ hk => ⟨⟨hk.1, ⟨hk.2.1, hk.2.2.2⟩⟩, hk.2.2.1⟩)) hg (.inl rfl)); have n1_ := Aside0.mk (Kd.R_after (v := (.slice (some ⟨go60, 0, none⟩) x6_5.length co61)) (v1 := (.slice (some ⟨go60, 0, none⟩) x6_5.length co61)) (ok := (fun k_ => some k_ ≠ (.slice Ao16 y131.length co16 : Value).ownBlock ∧ some k_ ≠ (.slice Ao44 t137.length co44 : Value).ownBlock ∧ some k_ ≠ (.slice Ao50 t143.length co50 : Value).ownBlock)) (by (with_reducible repeat (first | apply Kd.R_alloc | apply Kd.R_drewN | apply Kd.R_drew)); exact Kd.R_mono HO_4.out (fun _ hk => ⟨⟨hk.1, ⟨hk.2.1, hk.2.2.2⟩⟩, hk.2.2.1⟩)) hg (.inl rfl)); have n2_ := Aside0.mk (Kd.R_after (v := (.slice (some ⟨go60, 0, none⟩) x6_5.length co61)) (v1 := (.slice (some ⟨go60, 0, none⟩) x6_5.length co61)) (ok := (fun k_ => some k_ ≠ (.slice Ao16 y131.length co16 : Value).ownBlock ∧ some k_ ≠ (.slice Ao57 x4_4.length co57 : Value).ownBlock ∧ some k_ ≠ (.slice Ao50 t143.length co50 : Value).ownBlock)) (by (with_reducible repeat (first | apply Kd.R_alloc | apply Kd.R_drewN | apply Kd.R_drew)); exact Kd.R_mono HO_5.out (fun _ hk => ⟨⟨hk.1, ⟨hk.2.1, hk.2.2.2⟩⟩, hk.2.2.1⟩)) hg (.inl rfl)); have n3_ := Aside0.mk (hp_); have n4_ := Aside0.mk (Kd.R_after (v := (.slice (some ⟨go60, 0, none⟩) x6_5.length co61)) (v1 := (.slice (some ⟨go60, 0, none⟩) x6_5.length co61)) (ok := (fun k_ => some k_ ≠ (.slice Ao16 y131.length co16 : Value).ownBlock ∧ some k_ ≠ (.slice Ao57 x4_4.length co57 : Value).ownBlock ∧ some k_ ≠ (.slice Ao44 t137.length co44 : Value).ownBlock)) (by (with_reducible repeat (first | apply Kd.R_alloc | apply Kd.R_drewN | apply Kd.R_drew)); exact Kd.R_mono HO_7.out (fun _ hk => ⟨⟨hk.1, ⟨hk.2.1, hk.2.2.1⟩⟩, hk.2.2.2⟩)) hg (.inl rfl)); have n5_ := Aside0.mk (Kd.R_over' (v := (.slice (some ⟨go60, 0, none⟩) x6_5.length co61)) (kR HO_8) (Kd.R_typed HO_6.out) (by decide) hg); have n6_ := Aside0.mk ((by rw [hw]; exact below_set (HB.out) GB60.out : Below w.heap.size w w63)); clear HO_3; clear HO_4; clear HO_5; clear HO_6; clear HO_7; clear HO_8; clear HB; have HO_3 := n0_; have HO_4 := n1_; have HO_5 := n2_; have HO_6 := n3_; have HO_7 := n4_; have HO_8 := n5_; have HB := n6_; clear n0_ n1_ n2_ n3_ n4_ n5_ n6_; clear hg hw hp_))
                   go_roundg k5
                   case measure => have := HJ9.out; have := HK2.out; have := HK3.out; have := HK4.out; have := HK5.out; omega
                   case rel => exact ⟨(y155), (wrap64 (x12_5 + 1)), kr, H', ⟨by have := HJ9.out; have := HK2.out; have := HK3.out; have := HK4.out; have := HK5.out; omega⟩, ⟨by (with_reducible repeat (first | apply Kd.R_alloc | apply Kd.R_drewN | apply Kd.R_drew)); exact Kd.R_mono HO_3.out (fun _ hk => ⟨hk.1.1, ⟨hk.1.2.1, ⟨hk.2, hk.1.2.2⟩⟩⟩)⟩, ⟨by (with_reducible repeat (first | apply Kd.R_alloc | apply Kd.R_drewN | apply Kd.R_drew)); exact Kd.R_mono HO_4.out (fun _ hk => ⟨hk.1.1, ⟨hk.1.2.1, ⟨hk.2, hk.1.2.2⟩⟩⟩)⟩, ⟨by (with_reducible repeat (first | apply Kd.R_alloc | apply Kd.R_drewN | apply Kd.R_drew)); exact Kd.R_mono HO_5.out (fun _ hk => ⟨hk.1.1, ⟨hk.1.2.1, ⟨hk.2, hk.1.2.2⟩⟩⟩)⟩, ⟨kR HO_6⟩, ⟨by (with_reducible repeat (first | apply Kd.R_alloc | apply Kd.R_drewN | apply Kd.R_drew)); exact Kd.R_mono HO_7.out (fun _ hk => ⟨hk.1.1, ⟨hk.1.2.1, ⟨hk.1.2.2, hk.2⟩⟩⟩)⟩, ⟨kR HO_8⟩, ⟨kB0 HB⟩⟩
                  ·rw [if_neg c59] at H
                   exact absurd H (by simp)
                 ·rw [if_neg c58] at H
                  have c58b0 : decide (x12_5 < (x6_5.length : Int)) = false := decide_eq_false c58
                  clear c58
                  by_cases c64 : x4_4.length < 17592186044416
                  ·rw [if_pos c64] at H
                   have LMc64 := Aside0.mk c64
                   clear c64
                   obtain ⟨y156, hy156⟩ : ∃ y_ : List Nat, y_ = (x4_4 ++ [13840687554816376832]) := ⟨_, rfl⟩
                   replace H : (if x6_5.length < 17592186044416 then ((some (([] : List Nat) : List Nat)).bind fun y162 => (if y162.length + t137.length < 17592186044416 then ((some (y162 ++ t137 : List Nat)).bind fun y165 => (if y165.length + t143.length < 17592186044416 then (thicketlaw06_OrderOwn.l4 k5 y131 y156 (x6_5 ++ [13841813454723219456]) x8_3 (y165 ++ t143) 0) else (none))) else (none))) else (none)) = some r := by first | (rw [hy156]; with_reducible exact H) | (have H2_ := (Option.bind_some _ _).symm.trans H; rw [hy156]; with_reducible exact H2_) | (have H2_ := (Option.bind_some _ _).symm.trans H; with_reducible exact H2_) | with_reducible exact H | (rw [hy156]; exact H) | exact H
                   have Ny156 := Aside0.mk hy156
                   clear hy156
                   by_cases c65 : x6_5.length < 17592186044416
                   ·rw [if_pos c65] at H
                    have LMc65 := Aside0.mk c65
                    clear c65
                    obtain ⟨y159, hy159⟩ : ∃ y_ : List Nat, y_ = (x6_5 ++ [13841813454723219456]) := ⟨_, rfl⟩
                    replace H : ((some (([] : List Nat) : List Nat)).bind fun y162 => (if y162.length + t137.length < 17592186044416 then ((some (y162 ++ t137 : List Nat)).bind fun y165 => (if y165.length + t143.length < 17592186044416 then (thicketlaw06_OrderOwn.l4 k5 y131 y156 y159 x8_3 (y165 ++ t143) 0) else (none))) else (none))) = some r := by first | (rw [hy159]; with_reducible exact H) | (have H2_ := (Option.bind_some _ _).symm.trans H; rw [hy159]; with_reducible exact H2_) | (have H2_ := (Option.bind_some _ _).symm.trans H; with_reducible exact H2_) | with_reducible exact H | (rw [hy159]; exact H) | exact H
                    have Ny159 := Aside0.mk hy159
                    clear hy159
                    obtain ⟨y162, hy162⟩ : ∃ y_ : List Nat, y_ = (([] : List Nat)) := ⟨_, rfl⟩
                    replace H : (if y162.length + t137.length < 17592186044416 then ((some (y162 ++ t137 : List Nat)).bind fun y165 => (if y165.length + t143.length < 17592186044416 then (thicketlaw06_OrderOwn.l4 k5 y131 y156 y159 x8_3 (y165 ++ t143) 0) else (none))) else (none)) = some r := by first | (rw [hy162]; with_reducible exact H) | (have H2_ := (Option.bind_some _ _).symm.trans H; rw [hy162]; with_reducible exact H2_) | (have H2_ := (Option.bind_some _ _).symm.trans H; with_reducible exact H2_) | with_reducible exact H | (rw [hy162]; exact H) | exact H
                    have Ny162 := Aside0.mk hy162
                    clear hy162
                    by_cases c66 : y162.length + t137.length < 17592186044416
                    ·rw [if_pos c66] at H
                     have LMc66 := Aside0.mk c66
                     clear c66
                     obtain ⟨y165, hy165⟩ : ∃ y_ : List Nat, y_ = (y162 ++ t137) := ⟨_, rfl⟩
                     replace H : (if y165.length + t143.length < 17592186044416 then (thicketlaw06_OrderOwn.l4 k5 y131 y156 y159 x8_3 (y165 ++ t143) 0) else (none)) = some r := by first | (rw [hy165]; with_reducible exact H) | (have H2_ := (Option.bind_some _ _).symm.trans H; rw [hy165]; with_reducible exact H2_) | (have H2_ := (Option.bind_some _ _).symm.trans H; with_reducible exact H2_) | with_reducible exact H | (rw [hy165]; exact H) | exact H
                     have Ny165 := Aside0.mk hy165
                     clear hy165
                     by_cases c67 : y165.length + t143.length < 17592186044416
                     ·rw [if_pos c67] at H
                      have LMc67 := Aside0.mk c67
                      clear c67
                      obtain ⟨y168, hy168⟩ : ∃ y_ : List Nat, y_ = (y165 ++ t143) := ⟨_, rfl⟩
                      replace H : (thicketlaw06_OrderOwn.l4 k5 y131 y156 y159 x8_3 y168 0) = some r := by first | (rw [hy168]; with_reducible exact H) | (have H2_ := (Option.bind_some _ _).symm.trans H; rw [hy168]; with_reducible exact H2_) | (have H2_ := (Option.bind_some _ _).symm.trans H; with_reducible exact H2_) | with_reducible exact H | (rw [hy168]; exact H) | exact H
                      have Ny168 := Aside0.mk hy168
                      clear hy168
                      have H' := Aside0.mk H
                      clear H
                      obtain ⟨Ao68, co68, eo68⟩ := Kd.R_slice HO_6.out
                      subst eo68
                      go_wp2_with (first | ((with_reducible refine gate_builtin (b := .append) (xs := #[.tmp 99, .tmp 100]) rfl ?_); (try (refine gate_guard (by rfl) ?_; dsimp only)); at_builtin; refine Kd.R_append Kd.f64 (w0 := w) w.heap.size rfl (.tmp 99) (.tmp 100) 24 26 (.float .f64 0) 8 rfl Try.underlying24 info26 rfl (by decide) (by omega) (.slice Ao57 x4_4.length co57) x4_4 13840687554816376832 [.float .f64 13840687554816376832] (fun k_ => some k_ ≠ (.slice Ao16 y131.length co16 : Value).ownBlock ∧ some k_ ≠ (.slice Ao44 t137.length co44 : Value).ownBlock ∧ some k_ ≠ (.slice Ao68 x6_5.length co68 : Value).ownBlock ∧ some k_ ≠ (.slice Ao50 t143.length co50 : Value).ownBlock) (fun _ => False) rfl rfl ?aP (fun _ hk => hk.elim) ?aF ?aO ?aB ?aS ?aL ?_; (case aP => exact rfl); (case aB => exact (kB0 HB)); (case aF => exact (fun k_ hk => ⟨Kd.fresh' (Kd.R_lt (kR HO_3)) k_ hk, Kd.fresh' (Kd.R_lt (kR HO_5)) k_ hk, Kd.fresh' (Kd.R_lt (kR HO_6)) k_ hk, Kd.fresh' (Kd.R_lt (kR HO_7)) k_ hk⟩)); (case aO => exact (kR HO_4)); (case aS => exact (below_size (kB0 HB))); (case aL => have := LMc64.out; omega); intro v157 w69 ho hb hg hat; rw [← Ny156.out] at ho; have n0_ := Aside0.mk (Kd.R_after (ok := (fun k_ => some k_ ≠ (.slice Ao44 t137.length co44 : Value).ownBlock ∧ some k_ ≠ (.slice Ao68 x6_5.length co68 : Value).ownBlock ∧ some k_ ≠ (.slice Ao50 t143.length co50 : Value).ownBlock)) (by (with_reducible repeat (first | apply Kd.R_alloc | apply Kd.R_drewN | apply Kd.R_drew)); exact Kd.R_mono HO_3.out (fun _ hk => ⟨⟨hk.2.1, ⟨hk.2.2.1, hk.2.2.2⟩⟩, hk.1⟩)) hg hat); have n1_ := Aside0.mk (Kd.R_after (ok := (fun k_ => some k_ ≠ (.slice Ao16 y131.length co16 : Value).ownBlock ∧ some k_ ≠ (.slice Ao68 x6_5.length co68 : Value).ownBlock ∧ some k_ ≠ (.slice Ao50 t143.length co50 : Value).ownBlock)) (by (with_reducible repeat (first | apply Kd.R_alloc | apply Kd.R_drewN | apply Kd.R_drew)); exact Kd.R_mono HO_5.out (fun _ hk => ⟨⟨hk.1, ⟨hk.2.2.1, hk.2.2.2⟩⟩, hk.2.1⟩)) hg hat); have n2_ := Aside0.mk (Kd.R_after (ok := (fun k_ => some k_ ≠ (.slice Ao16 y131.length co16 : Value).ownBlock ∧ some k_ ≠ (.slice Ao44 t137.length co44 : Value).ownBlock ∧ some k_ ≠ (.slice Ao50 t143.length co50 : Value).ownBlock)) (by (with_reducible repeat (first | apply Kd.R_alloc | apply Kd.R_drewN | apply Kd.R_drew)); exact Kd.R_mono HO_6.out (fun _ hk => ⟨⟨hk.1, ⟨hk.2.2.1, hk.2.2.2⟩⟩, hk.2.1⟩)) hg hat); have n3_ := Aside0.mk (Kd.R_after (ok := (fun k_ => some k_ ≠ (.slice Ao16 y131.length co16 : Value).ownBlock ∧ some k_ ≠ (.slice Ao44 t137.length co44 : Value).ownBlock ∧ some k_ ≠ (.slice Ao68 x6_5.length co68 : Value).ownBlock)) (by (with_reducible repeat (first | apply Kd.R_alloc | apply Kd.R_drewN | apply Kd.R_drew)); exact Kd.R_mono HO_7.out (fun _ hk => ⟨⟨hk.1, ⟨hk.2.2.1, hk.2.2.2⟩⟩, hk.2.1⟩)) hg hat); have n4_ := Aside0.mk (Kd.R_over' (kR HO_8) (Kd.R_typed (kR HO_4)) (by decide) hg); have n5_ := Aside0.mk (hb); have n6_ := Aside0.mk (ho); clear HO_3; clear HO_5; clear HO_6; clear HO_7; clear HO_8; clear HB; clear HO_4; have HO_3 := n0_; have HO_5 := n1_; have HO_6 := n2_; have HO_7 := n3_; have HO_8 := n4_; have HB := n5_; have HO158 := n6_; clear n0_ n1_ n2_ n3_ n4_ n5_ n6_; clear ho hb hg hat) | ((with_reducible refine gate_builtin (b := .append) (xs := #[.tmp 102, .tmp 103]) rfl ?_); (try (refine gate_guard (by rfl) ?_; dsimp only)); at_builtin; refine Kd.R_append Kd.f64 (w0 := w) w.heap.size rfl (.tmp 102) (.tmp 103) 24 26 (.float .f64 0) 8 rfl Try.underlying24 info26 rfl (by decide) (by omega) (.slice Ao68 x6_5.length co68) x6_5 13841813454723219456 [.float .f64 13841813454723219456] (fun k_ => some k_ ≠ (.slice Ao16 y131.length co16 : Value).ownBlock ∧ some k_ ≠ (.slice Ao44 t137.length co44 : Value).ownBlock ∧ some k_ ≠ (.slice Ao50 t143.length co50 : Value).ownBlock ∧ some k_ ≠ (v157 : Value).ownBlock) (fun _ => False) rfl rfl ?aP (fun _ hk => hk.elim) ?aF ?aO ?aB ?aS ?aL ?_; (case aP => exact rfl); (case aB => exact (kB0 HB)); (case aF => exact (fun k_ hk => ⟨Kd.fresh' (Kd.R_lt (kR HO_3)) k_ hk, Kd.fresh' (Kd.R_lt (kR HO_5)) k_ hk, Kd.fresh' (Kd.R_lt (kR HO_7)) k_ hk, Kd.fresh' (Kd.R_lt (kR HO158)) k_ hk⟩)); (case aO => exact (by (with_reducible repeat (first | apply Kd.R_alloc | apply Kd.R_drewN | apply Kd.R_drew)); exact Kd.R_mono HO_6.out (fun _ hk => ⟨hk.1.1, ⟨hk.1.2.1, ⟨hk.1.2.2, hk.2⟩⟩⟩))); (case aS => exact (below_size (kB0 HB))); (case aL => have := LMc65.out; omega); intro v160 w70 ho hb hg hat; rw [← Ny159.out] at ho; have n0_ := Aside0.mk (Kd.R_after (ok := (fun k_ => some k_ ≠ (.slice Ao44 t137.length co44 : Value).ownBlock ∧ some k_ ≠ (.slice Ao50 t143.length co50 : Value).ownBlock ∧ some k_ ≠ (v157 : Value).ownBlock)) (by (with_reducible repeat (first | apply Kd.R_alloc | apply Kd.R_drewN | apply Kd.R_drew)); exact Kd.R_mono HO_3.out (fun _ hk => ⟨⟨hk.1.1, ⟨hk.1.2.2, hk.2⟩⟩, hk.1.2.1⟩)) hg hat); have n1_ := Aside0.mk (Kd.R_after (ok := (fun k_ => some k_ ≠ (.slice Ao16 y131.length co16 : Value).ownBlock ∧ some k_ ≠ (.slice Ao50 t143.length co50 : Value).ownBlock ∧ some k_ ≠ (v157 : Value).ownBlock)) (by (with_reducible repeat (first | apply Kd.R_alloc | apply Kd.R_drewN | apply Kd.R_drew)); exact Kd.R_mono HO_5.out (fun _ hk => ⟨⟨hk.1.1, ⟨hk.1.2.2, hk.2⟩⟩, hk.1.2.1⟩)) hg hat); have n2_ := Aside0.mk (Kd.R_after (ok := (fun k_ => some k_ ≠ (.slice Ao16 y131.length co16 : Value).ownBlock ∧ some k_ ≠ (.slice Ao44 t137.length co44 : Value).ownBlock ∧ some k_ ≠ (v157 : Value).ownBlock)) (by (with_reducible repeat (first | apply Kd.R_alloc | apply Kd.R_drewN | apply Kd.R_drew)); exact Kd.R_mono HO_7.out (fun _ hk => ⟨⟨hk.1.1, ⟨hk.1.2.1, hk.2⟩⟩, hk.1.2.2⟩)) hg hat); have n3_ := Aside0.mk (Kd.R_over' (kR HO_8) (Kd.R_typed (kR HO_6)) (by decide) hg); have n4_ := Aside0.mk (Kd.R_after (ok := (fun k_ => some k_ ≠ (.slice Ao16 y131.length co16 : Value).ownBlock ∧ some k_ ≠ (.slice Ao44 t137.length co44 : Value).ownBlock ∧ some k_ ≠ (.slice Ao50 t143.length co50 : Value).ownBlock)) (by (with_reducible repeat (first | apply Kd.R_alloc | apply Kd.R_drewN | apply Kd.R_drew)); exact Kd.R_mono HO158.out (fun _ hk => ⟨⟨hk.1, ⟨hk.2.1, hk.2.2.2⟩⟩, hk.2.2.1⟩)) hg hat); have n5_ := Aside0.mk (hb); have n6_ := Aside0.mk (ho); clear HO_3; clear HO_5; clear HO_7; clear HO_8; clear HO158; clear HB; clear HO_6; have HO_3 := n0_; have HO_5 := n1_; have HO_7 := n2_; have HO_8 := n3_; have HO158 := n4_; have HB := n5_; have HO161 := n6_; clear n0_ n1_ n2_ n3_ n4_ n5_ n6_; clear ho hb hg hat) | ((with_reducible refine gate_dst (N := 105) rfl ?_); (try (refine gate_guard (by rfl) ?_; dsimp only)); refine Kd.R_lit Kd.f64 _ 26 ?hg (N := 105) ?hd (xs := ([] : List Nat)) (inner := []) (ok := fun _ => True) (okp := fun _ => True) ?hr ?hp (fun _ hk => hk) trivial (Below.refl _ _) (Nat.le_refl _) (by simp) ?_; (case hd => rfl); (case hg => rfl); (case hr => first | (go_simp; done) | (go_simp; rfl)); (case hp => exact (Reps.none _ _)); intro v163 w71 ho72 hb hg_ hnew_; clear hg_ hnew_; (first | rw [← Ny162.out] at ho72 | (simp only [Int.reduceToNat] at ho72; rw [← Ny162.out] at ho72)); have n0_ := Aside0.mk (Kd.R_elder' (kR HO_3) (Kd.R_base ho72) hb); have n1_ := Aside0.mk (Kd.R_elder' (kR HO_5) (Kd.R_base ho72) hb); have n2_ := Aside0.mk (Kd.R_elder' (kR HO_7) (Kd.R_base ho72) hb); have n3_ := Aside0.mk (Kd.R_below (kR HO_8) hb); have n4_ := Aside0.mk (Kd.R_elder' (kR HO158) (Kd.R_base ho72) hb); have n5_ := Aside0.mk (Kd.R_elder' (kR HO161) (Kd.R_base ho72) hb); have n6_ := Aside0.mk (Kd.R_lower (Kd.R_new' (Kd.R_new' (Kd.R_new' (Kd.R_new' (Kd.R_new' ho72 (Kd.R_lt (kR HO_3))) (Kd.R_lt (kR HO_5))) (Kd.R_lt (kR HO_7))) (Kd.R_lt (kR HO158))) (Kd.R_lt (kR HO161))) (below_size (kB0 HB))); have n7_ := Aside0.mk (below_step (kB0 HB) hb); clear HO_3; clear HO_5; clear HO_7; clear HO_8; clear HO158; clear HO161; clear HB; have HO_3 := n0_; have HO_5 := n1_; have HO_7 := n2_; have HO_8 := n3_; have HO158 := n4_; have HO161 := n5_; have HO164 := n6_; have HB := n7_; clear n0_ n1_ n2_ n3_ n4_ n5_ n6_ n7_; clear hb ho72) | ((with_reducible refine gate_builtin (b := .append) (xs := #[.tmp 105, .tmp 106]) rfl ?_); (try (refine gate_guard (by rfl) ?_; dsimp only)); at_builtin; refine Kd.R_append_rows Kd.f64 (w0 := w) w.heap.size rfl (.tmp 105) (.tmp 106) 24 26 (.float .f64 0) 8 rfl Try.underlying24 info26 rfl (by decide) (by omega) v163 y162 t137 _ _ _ (fun k_ => some k_ ≠ (.slice Ao16 y131.length co16 : Value).ownBlock ∧ some k_ ≠ (.slice Ao44 t137.length co44 : Value).ownBlock ∧ some k_ ≠ (.slice Ao50 t143.length co50 : Value).ownBlock ∧ some k_ ≠ (v157 : Value).ownBlock ∧ some k_ ≠ (v160 : Value).ownBlock) (fun _ => False) rfl rfl ?aO ?aR (fun _ _ h => h) (fun _ h => h.elim) ?aF ?aB ?aS ?aL ?_; (case aR => repeat (first | exact (Kd.R_reads' HO_5.out).2.2 | (with_reducible refine Kd.C_alloc ?_ _) | (with_reducible refine Kd.C_drewN ?_ _) | (with_reducible refine Kd.C_drew ?_))); (case aB => exact (kB0 HB)); (case aF => exact (fun k_ hk => ⟨Kd.fresh' (Kd.R_lt (kR HO_3)) k_ hk, Kd.fresh' (Kd.R_lt (kR HO_5)) k_ hk, Kd.fresh' (Kd.R_lt (kR HO_7)) k_ hk, Kd.fresh' (Kd.R_lt (kR HO158)) k_ hk, Kd.fresh' (Kd.R_lt (kR HO161)) k_ hk⟩)); (case aO => exact (by (with_reducible repeat (first | apply Kd.R_alloc | apply Kd.R_drewN | apply Kd.R_drew)); exact Kd.R_mono HO164.out (fun _ hk => ⟨hk.1.1.1.1.2, ⟨hk.1.1.1.2, ⟨hk.1.1.2, ⟨hk.1.2, hk.2⟩⟩⟩⟩))); (case aS => exact (below_size (kB0 HB))); (case aL => have := LMc66.out; omega); intro v166 w73 ho hb hg hat; rw [← Ny165.out] at ho; have n0_ := Aside0.mk (Kd.R_after (ok := (fun k_ => some k_ ≠ (.slice Ao44 t137.length co44 : Value).ownBlock ∧ some k_ ≠ (.slice Ao50 t143.length co50 : Value).ownBlock ∧ some k_ ≠ (v157 : Value).ownBlock ∧ some k_ ≠ (v160 : Value).ownBlock)) (by (with_reducible repeat (first | apply Kd.R_alloc | apply Kd.R_drewN | apply Kd.R_drew)); exact Kd.R_mono HO_3.out (fun _ hk => ⟨⟨hk.1.1.1, ⟨hk.1.1.2.1, ⟨hk.1.1.2.2, hk.1.2⟩⟩⟩, hk.2⟩)) hg hat); have n1_ := Aside0.mk (Kd.R_after (ok := (fun k_ => some k_ ≠ (.slice Ao16 y131.length co16 : Value).ownBlock ∧ some k_ ≠ (.slice Ao50 t143.length co50 : Value).ownBlock ∧ some k_ ≠ (v157 : Value).ownBlock ∧ some k_ ≠ (v160 : Value).ownBlock)) (by (with_reducible repeat (first | apply Kd.R_alloc | apply Kd.R_drewN | apply Kd.R_drew)); exact Kd.R_mono HO_5.out (fun _ hk => ⟨⟨hk.1.1.1, ⟨hk.1.1.2.1, ⟨hk.1.1.2.2, hk.1.2⟩⟩⟩, hk.2⟩)) hg hat); have n2_ := Aside0.mk (Kd.R_after (ok := (fun k_ => some k_ ≠ (.slice Ao16 y131.length co16 : Value).ownBlock ∧ some k_ ≠ (.slice Ao44 t137.length co44 : Value).ownBlock ∧ some k_ ≠ (v157 : Value).ownBlock ∧ some k_ ≠ (v160 : Value).ownBlock)) (by (with_reducible repeat (first | apply Kd.R_alloc | apply Kd.R_drewN | apply Kd.R_drew)); exact Kd.R_mono HO_7.out (fun _ hk => ⟨⟨hk.1.1.1, ⟨hk.1.1.2.1, ⟨hk.1.1.2.2, hk.1.2⟩⟩⟩, hk.2⟩)) hg hat); have n3_ := Aside0.mk (Kd.R_over' (kR HO_8) (Kd.R_typed (kR HO164)) (by decide) hg); have n4_ := Aside0.mk (Kd.R_after (ok := (fun k_ => some k_ ≠ (.slice Ao16 y131.length co16 : Value).ownBlock ∧ some k_ ≠ (.slice Ao44 t137.length co44 : Value).ownBlock ∧ some k_ ≠ (.slice Ao50 t143.length co50 : Value).ownBlock ∧ some k_ ≠ (v160 : Value).ownBlock)) (by (with_reducible repeat (first | apply Kd.R_alloc | apply Kd.R_drewN | apply Kd.R_drew)); exact Kd.R_mono HO158.out (fun _ hk => ⟨⟨hk.1.1.1, ⟨hk.1.1.2.1, ⟨hk.1.1.2.2, hk.1.2⟩⟩⟩, hk.2⟩)) hg hat); have n5_ := Aside0.mk (Kd.R_after (ok := (fun k_ => some k_ ≠ (.slice Ao16 y131.length co16 : Value).ownBlock ∧ some k_ ≠ (.slice Ao44 t137.length co44 : Value).ownBlock ∧ some k_ ≠ (.slice Ao50 t143.length co50 : Value).ownBlock ∧ some k_ ≠ (v157 : Value).ownBlock)) (kR HO161) hg hat); have n6_ := Aside0.mk (hb); have n7_ := Aside0.mk (ho); clear HO_3; clear HO_5; clear HO_7; clear HO_8; clear HO158; clear HO161; clear HB; clear HO164; have HO_3 := n0_; have HO_5 := n1_; have HO_7 := n2_; have HO_8 := n3_; have HO158 := n4_; have HO161 := n5_; have HB := n6_; have HO167 := n7_; clear n0_ n1_ n2_ n3_ n4_ n5_ n6_ n7_; clear ho hb hg hat) | ((with_reducible refine gate_builtin (b := .append) (xs := #[.tmp 107, .tmp 108]) rfl ?_); (try (refine gate_guard (by rfl) ?_; dsimp only)); at_builtin; refine Kd.R_append_rows Kd.f64 (w0 := w) w.heap.size rfl (.tmp 107) (.tmp 108) 24 26 (.float .f64 0) 8 rfl Try.underlying24 info26 rfl (by decide) (by omega) v166 y165 t143 _ _ _ (fun k_ => some k_ ≠ (.slice Ao16 y131.length co16 : Value).ownBlock ∧ some k_ ≠ (.slice Ao44 t137.length co44 : Value).ownBlock ∧ some k_ ≠ (.slice Ao50 t143.length co50 : Value).ownBlock ∧ some k_ ≠ (v157 : Value).ownBlock ∧ some k_ ≠ (v160 : Value).ownBlock) (fun _ => False) rfl rfl ?aO ?aR (fun _ _ h => h) (fun _ h => h.elim) ?aF ?aB ?aS ?aL ?_; (case aR => repeat (first | exact (Kd.R_reads' HO_7.out).2.2 | (with_reducible refine Kd.C_alloc ?_ _) | (with_reducible refine Kd.C_drewN ?_ _) | (with_reducible refine Kd.C_drew ?_))); (case aB => exact (kB0 HB)); (case aF => exact (fun k_ hk => ⟨Kd.fresh' (Kd.R_lt (kR HO_3)) k_ hk, Kd.fresh' (Kd.R_lt (kR HO_5)) k_ hk, Kd.fresh' (Kd.R_lt (kR HO_7)) k_ hk, Kd.fresh' (Kd.R_lt (kR HO158)) k_ hk, Kd.fresh' (Kd.R_lt (kR HO161)) k_ hk⟩)); (case aO => exact (kR HO167)); (case aS => exact (below_size (kB0 HB))); (case aL => have := LMc67.out; omega); intro v169 w74 ho hb hg hat; rw [← Ny168.out] at ho; have n0_ := Aside0.mk (Kd.R_after (ok := (fun k_ => some k_ ≠ (.slice Ao44 t137.length co44 : Value).ownBlock ∧ some k_ ≠ (.slice Ao50 t143.length co50 : Value).ownBlock ∧ some k_ ≠ (v157 : Value).ownBlock ∧ some k_ ≠ (v160 : Value).ownBlock)) (kR HO_3) hg hat); have n1_ := Aside0.mk (Kd.R_after (ok := (fun k_ => some k_ ≠ (.slice Ao16 y131.length co16 : Value).ownBlock ∧ some k_ ≠ (.slice Ao50 t143.length co50 : Value).ownBlock ∧ some k_ ≠ (v157 : Value).ownBlock ∧ some k_ ≠ (v160 : Value).ownBlock)) (kR HO_5) hg hat); have n2_ := Aside0.mk (Kd.R_after (ok := (fun k_ => some k_ ≠ (.slice Ao16 y131.length co16 : Value).ownBlock ∧ some k_ ≠ (.slice Ao44 t137.length co44 : Value).ownBlock ∧ some k_ ≠ (v157 : Value).ownBlock ∧ some k_ ≠ (v160 : Value).ownBlock)) (kR HO_7) hg hat); have n3_ := Aside0.mk (Kd.R_over' (kR HO_8) (Kd.R_typed (kR HO167)) (by decide) hg); have n4_ := Aside0.mk (Kd.R_after (ok := (fun k_ => some k_ ≠ (.slice Ao16 y131.length co16 : Value).ownBlock ∧ some k_ ≠ (.slice Ao44 t137.length co44 : Value).ownBlock ∧ some k_ ≠ (.slice Ao50 t143.length co50 : Value).ownBlock ∧ some k_ ≠ (v160 : Value).ownBlock)) (kR HO158) hg hat); have n5_ := Aside0.mk (Kd.R_after (ok := (fun k_ => some k_ ≠ (.slice Ao16 y131.length co16 : Value).ownBlock ∧ some k_ ≠ (.slice Ao44 t137.length co44 : Value).ownBlock ∧ some k_ ≠ (.slice Ao50 t143.length co50 : Value).ownBlock ∧ some k_ ≠ (v157 : Value).ownBlock)) (kR HO161) hg hat); have n6_ := Aside0.mk (hb); have n7_ := Aside0.mk (ho); clear HO_3; clear HO_5; clear HO_7; clear HO_8; clear HO158; clear HO161; clear HB; clear HO167; have HO_3 := n0_; have HO_5 := n1_; have HO_7 := n2_; have HO_8 := n3_; have HO158 := n4_; have HO161 := n5_; have HB := n6_; have HO170 := n7_; clear n0_ n1_ n2_ n3_ n4_ n5_ n6_ n7_; clear ho hb hg hat))
                      go_loopg [14] k5 (fun kq v14 w' => ∃ (x14_6 : Int), v14 = .int .i64 x14_6 ∧ Aside0 (thicketlaw06_OrderOwn.l4 kq y131 y156 y159 x8_3 y168 x14_6 = some r) ∧ Aside0 (kq ≤ k5) ∧ Aside0 (Kd.R Kd.f64 26 w' w.heap.size (fun k_ => some k_ ≠ (v157 : Value).ownBlock ∧ some k_ ≠ (v160 : Value).ownBlock ∧ some k_ ≠ (v169 : Value).ownBlock) (.slice Ao16 y131.length co16) y131) ∧ Aside0 (Kd.R Kd.f64 26 w' w.heap.size (fun k_ => some k_ ≠ ((.slice Ao16 y131.length co16) : Value).ownBlock ∧ some k_ ≠ (v160 : Value).ownBlock ∧ some k_ ≠ (v169 : Value).ownBlock) v157 y156) ∧ Aside0 (Kd.R Kd.f64 26 w' w.heap.size (fun k_ => some k_ ≠ ((.slice Ao16 y131.length co16) : Value).ownBlock ∧ some k_ ≠ (v157 : Value).ownBlock ∧ some k_ ≠ (v169 : Value).ownBlock) v160 y159) ∧ Aside0 (Kd.R (Kd.int .u64) 23 w' w.heap.size (fun _ => True) u8 x8_3) ∧ Aside0 (Kd.R Kd.f64 26 w' w.heap.size (fun k_ => some k_ ≠ ((.slice Ao16 y131.length co16) : Value).ownBlock ∧ some k_ ≠ (v157 : Value).ownBlock ∧ some k_ ≠ (v160 : Value).ownBlock) v169 y168) ∧ Aside0 (Below w.heap.size w w'))
                      case atStart => exact ⟨(0), kr, H', ⟨Nat.le_refl _⟩, ⟨by (with_reducible repeat (first | apply Kd.R_alloc | apply Kd.R_drewN | apply Kd.R_drew)); exact Kd.R_mono HO_3.out (fun _ hk => ⟨hk.1.2.2.1, ⟨hk.1.2.2.2, hk.2⟩⟩)⟩, ⟨by (with_reducible repeat (first | apply Kd.R_alloc | apply Kd.R_drewN | apply Kd.R_drew)); exact Kd.R_mono HO158.out (fun _ hk => ⟨hk.1.1, ⟨hk.1.2.2.2, hk.2⟩⟩)⟩, ⟨by (with_reducible repeat (first | apply Kd.R_alloc | apply Kd.R_drewN | apply Kd.R_drew)); exact Kd.R_mono HO161.out (fun _ hk => ⟨hk.1.1, ⟨hk.1.2.2.2, hk.2⟩⟩)⟩, ⟨kR HO_8⟩, ⟨by (with_reducible repeat (first | apply Kd.R_alloc | apply Kd.R_drewN | apply Kd.R_drew)); exact Kd.R_mono HO170.out (fun _ hk => ⟨hk.1, ⟨hk.2.2.2.1, hk.2.2.2.2⟩⟩)⟩, ⟨kB0 HB⟩⟩
                      case round =>
                       clear H'
                       try clear c1
                       try clear p1
                       try clear q1
                       try clear hx1
                       try clear c2
                       try clear p2
                       try clear c3
                       try clear c4
                       try clear c5
                       try clear p5
                       try clear q5
                       try clear hx5
                       try clear hf5
                       try clear c6
                       try clear p6
                       try clear q6
                       try clear hx6
                       try clear hf6
                       try clear c9
                       try clear c11
                       try clear p14
                       try clear q14
                       try clear hx14
                       try clear c15
                       try clear p15
                       try clear q15
                       try clear hx15
                       try clear c21
                       try clear c21b0
                       try clear c21b1
                       try clear c21b2
                       try clear c22
                       try clear c22b0
                       try clear c22b1
                       try clear c22b2
                       try clear c23
                       try clear c23b0
                       try clear c23b1
                       try clear c23b2
                       try clear c38
                       try clear c39
                       try clear c39b0
                       try clear c40
                       try clear c40b0
                       try clear c41
                       try clear c45
                       try clear c45b0
                       try clear c46
                       try clear c46b0
                       try clear c47
                       try clear c51
                       try clear c51b0
                       try clear c52
                       try clear c52b0
                       try clear p53
                       try clear q53
                       try clear hx53
                       try clear hf53
                       try clear c58
                       try clear c58b0
                       try clear c59
                       try clear c59b0
                       try clear p60
                       try clear q60
                       try clear hx60
                       try clear hf60
                       try clear c64
                       try clear p64
                       try clear c65
                       try clear c66
                       try clear c67
                       try clear hx146_0
                       try clear hx150_0
                       try clear hx53_0
                       try clear hx60_0
                       try clear p146
                       try clear p150
                       try clear q146
                       try clear q150
                       obtain ⟨x14_6, rfl, HA, HK6, HO_3, HO_4, HO_6, HO_8, HO_13, HB⟩ := hrel
                       cases gk with
                       | zero => exact absurd HA.out (by simp [thicketlaw06_OrderOwn.l4])
                       | succ k6 =>
                        have H := HA.out
                        clear HA
                        simp only [thicketlaw06_OrderOwn.l4] at H
                        by_cases c75 : x14_6 < (y168.length : Int)
                        ·rw [if_pos c75] at H
                         have c75b0 : decide (x14_6 < (y168.length : Int)) = true := decide_eq_true c75
                         clear c75
                         by_cases c76 : 0 ≤ x14_6
                         ·rw [if_pos c76] at H
                          have c76b0 : decide (0 ≤ x14_6) = true := decide_eq_true c76
                          clear c76
                          by_cases c77 : x14_6 < (x8_3.length : Int)
                          ·rw [if_pos c77] at H
                           have c77b0 : decide (x14_6 < (x8_3.length : Int)) = true := decide_eq_true c77
                           clear c77
                           by_cases c78 : (f64bits (rdOf (0 : Nat) y168 x14_6)) = (rd x8_3 x14_6)
                           ·rw [if_pos c78] at H
                            have c78b0 : ((f64bits (rdOf (0 : Nat) y168 x14_6)) == (rd x8_3 x14_6)) = true := beq_iff_eq.mpr c78
                            have c78b1 : ((f64bits (rdOf (0 : Nat) y168 x14_6)) != (rd x8_3 x14_6)) = false := bne_eq_false_iff_eq.mpr c78
                            clear c78
                            have H' := Aside0.mk H
                            clear H
                            obtain ⟨Ao79, co79, eo79⟩ := Kd.R_slice HO_13.out
                            subst eo79
                            try go_wp2
                            have n0_ := Aside0.mk (Kd.R_drew HO_3.out)
                            have n1_ := Aside0.mk (Kd.R_drew HO_4.out)
                            have n2_ := Aside0.mk (Kd.R_drew HO_6.out)
                            have n3_ := Aside0.mk (Kd.R_drew HO_8.out)
                            have n4_ := Aside0.mk (Kd.R_drew HO_13.out)
                            have n5_ := Aside0.mk (below_drew1 HB.out)
                            clear HO_3
                            clear HO_4
                            clear HO_6
                            clear HO_8
                            clear HO_13
                            clear HB
                            have HO_3 := n0_
                            have HO_4 := n1_
                            have HO_6 := n2_
                            have HO_8 := n3_
                            have HO_13 := n4_
                            have HB := n5_
                            clear n0_ n1_ n2_ n3_ n4_ n5_
                            have p171 : 0 ≤ (x14_6 : Int) := of_decide_eq_true ka
                            have q171 : x14_6 < (y168.length : Int) := of_decide_eq_true ka
                            obtain ⟨ad171, e171, hx171_0⟩ := Kd.at_f64 (Kd.R_reads' HO_13.out).2.2 x14_6 p171 q171
                            cases e171
                            replace p171 := eq_true p171
                            replace q171 := eq_true q171
                            obtain ⟨Ao81, co81, eo81⟩ := Kd.R_slice HO_8.out
                            (first | subst eo81 | (injection eo81 with f1_ f2_ f3_; have f4_ := f1_.symm; have f5_ := f3_.symm; clear f1_ f2_ f3_; subst f4_; subst f5_))
                            have p172 : 0 ≤ (x14_6 : Int) := of_decide_eq_true ka
                            have q172 : x14_6 < (x8_3.length : Int) := of_decide_eq_true ka
                            obtain ⟨ad172, e172, hx172_0⟩ := Kd.at_int (Kd.R_reads' HO_8.out).2.2 x14_6 p172 q172
                            cases e172
                            replace p172 := eq_true p172
                            replace q172 := eq_true q172
                            refine start_ (n := 10) (S := fun w' => w'.cell? (ad171.add (x14_6).toNat) = some (.float .f64 (rdOf (0 : Nat) y168 x14_6)) ∧ w'.cell? (ad172.add (x14_6).toNat) = some (.int .u64 (rd x8_3 x14_6))) (ds := []) #[false, false, false, false, false, false, false, false, false, false] (by kernel_rfl) rfl rfl ⟨hx171_0, hx172_0⟩ (fun hHeld => ?_); refine with_tabW thicketlaw06_OrderOwn.tab33 thicketlaw06_OrderOwn.bits33 (fun HT_ HW_ => ?_)
                            generalize wr.drew = w80 at HO_3 HO_4 HO_6 HO_8 HO_13 HB hx171_0 hx172_0 hHeld ⊢
                            refine pure_ (i := 0) (N := some 116) (v := ?_) (a' := ?_) #[true, false, false, false, false, false, false, false, false, false] rfl rfl (any_of HT_.out (by kernel_rfl)) (fun _ _ _ h => h) (Or.inl ⟨by rfl, ?_⟩) ?_ ?_
                            rotate_left
                            ·intro w'
                             go_simp
                             with_reducible rfl
                            rotate_left
                            ·simp only [Act.put, List.setIfInBounds_toArray, List.set_cons_zero, List.set_cons_succ, i64_w, i32_w]
                             rfl
                            refine pure_ (i := 1) (N := some 117) (v := ?_) (a' := ?_) #[true, true, false, false, false, false, false, false, false, false] rfl rfl (any_of HT_.out (by kernel_rfl)) (fun _ _ _ h => h) (Or.inl ⟨by rfl, ?_⟩) ?_ ?_
                            rotate_left
                            ·intro w'
                             go_simp
                             with_reducible rfl
                            rotate_left
                            ·simp only [Act.put, List.setIfInBounds_toArray, List.set_cons_zero, List.set_cons_succ, i64_w, i32_w]
                             rfl
                            refine pure_ (i := 2) (N := some 118) (v := ?_) (a' := ?_) #[true, true, true, false, false, false, false, false, false, false] rfl rfl (any_of HT_.out (by kernel_rfl)) (fun _ _ _ h => h) (Or.inl ⟨by rfl, ?_⟩) ?_ ?_
                            rotate_left
                            ·intro w'
                             go_simp
                             with_reducible rfl
                            rotate_left
                            ·simp only [Act.put, List.setIfInBounds_toArray, List.set_cons_zero, List.set_cons_succ, i64_w, i32_w]
                             rfl
                            refine pure_ (i := 5) (N := some 121) (v := ?_) (a' := ?_) #[true, true, true, false, false, true, false, false, false, false] rfl rfl (any_of HT_.out (by kernel_rfl)) (fun _ _ _ h => h) (Or.inl ⟨by rfl, ?_⟩) ?_ ?_
                            rotate_left
                            ·intro w'
                             go_simp
                             with_reducible rfl
                            rotate_left
                            ·simp only [Act.put, List.setIfInBounds_toArray, List.set_cons_zero, List.set_cons_succ, i64_w, i32_w]
                             rfl
                            refine pure_ (i := 6) (N := some 122) (v := ?_) (a' := ?_) #[true, true, true, false, false, true, true, false, false, false] rfl rfl (any_of HT_.out (by kernel_rfl)) (fun _ _ _ h => h) (Or.inl ⟨by rfl, ?_⟩) ?_ ?_
                            rotate_left
                            ·intro w'
                             go_simp
                             with_reducible rfl
                            rotate_left
                            ·simp only [Act.put, List.setIfInBounds_toArray, List.set_cons_zero, List.set_cons_succ, i64_w, i32_w]
                             rfl
                            refine pure_ (i := 7) (N := some 123) (v := ?_) (a' := ?_) #[true, true, true, false, false, true, true, true, false, false] rfl rfl (any_of HT_.out (by kernel_rfl)) (fun _ _ _ h => h) (Or.inl ⟨by rfl, ?_⟩) ?_ ?_
                            rotate_left
                            ·intro w'
                             go_simp
                             with_reducible rfl
                            rotate_left
                            ·simp only [Act.put, List.setIfInBounds_toArray, List.set_cons_zero, List.set_cons_succ, i64_w, i32_w]
                             rfl
                            refine take_ (i := 3) (N := some 119) (v := ?_) (a' := ?_) #[true, true, true, true, false, true, true, true, false, false] rfl rfl (take_ofW HT_.out HW_.out (by kernel_rfl)) (fun _ _ _ h => h) (Or.inl ⟨by rfl, ?_⟩) hHeld ?_ ?_
                            rotate_left
                            ·rintro w' ⟨s0, s1⟩
                             go_simp
                             with_reducible rfl
                            rotate_left
                            ·simp only [Act.put, List.setIfInBounds_toArray, List.set_cons_zero, List.set_cons_succ, i64_w, i32_w]
                             rfl
                            refine pure_ (i := 4) (N := some 120) (v := ?_) (a' := ?_) #[true, true, true, true, true, true, true, true, false, false] rfl rfl (any_of HT_.out (by kernel_rfl)) (fun _ _ _ h => h) (Or.inl ⟨by rfl, ?_⟩) ?_ ?_
                            rotate_left
                            ·intro w'
                             go_simp
                             with_reducible rfl
                            rotate_left
                            ·simp only [Act.put, List.setIfInBounds_toArray, List.set_cons_zero, List.set_cons_succ, i64_w, i32_w]
                             rfl
                            refine take_ (i := 8) (N := some 124) (v := ?_) (a' := ?_) #[true, true, true, true, true, true, true, true, true, false] rfl rfl (take_ofW HT_.out HW_.out (by kernel_rfl)) (fun _ _ _ h => h) (Or.inl ⟨by rfl, ?_⟩) hHeld ?_ ?_
                            rotate_left
                            ·rintro w' ⟨s0, s1⟩
                             go_simp
                             with_reducible rfl
                            rotate_left
                            ·simp only [Act.put, List.setIfInBounds_toArray, List.set_cons_zero, List.set_cons_succ, i64_w, i32_w]
                             rfl
                            refine pure_ (i := 9) (N := some 125) (v := ?_) (a' := ?_) #[true, true, true, true, true, true, true, true, true, true] rfl rfl (any_of HT_.out (by kernel_rfl)) (fun _ _ _ h => h) (Or.inl ⟨by rfl, ?_⟩) ?_ ?_
                            rotate_left
                            ·intro w'
                             go_simp
                             with_reducible rfl
                            rotate_left
                            ·simp only [Act.put, List.setIfInBounds_toArray, List.set_cons_zero, List.set_cons_succ, i64_w, i32_w]
                             rfl
                            refine done_ (done_of HT_.out (by kernel_rfl)) ?_
                            try go_wp2
                            go_roundg k6
                            case measure => have := HJ9.out; have := HK2.out; have := HK3.out; have := HK4.out; have := HK5.out; have := HK6.out; omega
                            case rel => exact ⟨(wrap64 (x14_6 + 1)), kr, H', ⟨by have := HJ9.out; have := HK2.out; have := HK3.out; have := HK4.out; have := HK5.out; have := HK6.out; omega⟩, ⟨kR HO_3⟩, ⟨kR HO_4⟩, ⟨kR HO_6⟩, ⟨kR HO_8⟩, ⟨kR HO_13⟩, ⟨kB0 HB⟩⟩
                           ·rw [if_neg c78] at H
                            have c78b0 : ((f64bits (rdOf (0 : Nat) y168 x14_6)) == (rd x8_3 x14_6)) = false := beq_eq_false_iff_ne.mpr c78
                            have c78b1 : ((f64bits (rdOf (0 : Nat) y168 x14_6)) != (rd x8_3 x14_6)) = true := bne_iff_ne.mpr c78
                            obtain rfl := Option.some.inj H
                            obtain ⟨Ao82, co82, eo82⟩ := Kd.R_slice HO_13.out
                            subst eo82
                            try go_wp2
                            have n0_ := Aside0.mk (Kd.R_drew HO_3.out)
                            have n1_ := Aside0.mk (Kd.R_drew HO_4.out)
                            have n2_ := Aside0.mk (Kd.R_drew HO_6.out)
                            have n3_ := Aside0.mk (Kd.R_drew HO_8.out)
                            have n4_ := Aside0.mk (Kd.R_drew HO_13.out)
                            have n5_ := Aside0.mk (below_drew1 HB.out)
                            clear HO_3
                            clear HO_4
                            clear HO_6
                            clear HO_8
                            clear HO_13
                            clear HB
                            have HO_3 := n0_
                            have HO_4 := n1_
                            have HO_6 := n2_
                            have HO_8 := n3_
                            have HO_13 := n4_
                            have HB := n5_
                            clear n0_ n1_ n2_ n3_ n4_ n5_
                            have p171 : 0 ≤ (x14_6 : Int) := of_decide_eq_true ka
                            have q171 : x14_6 < (y168.length : Int) := of_decide_eq_true ka
                            obtain ⟨ad171, e171, hx171_0⟩ := Kd.at_f64 (Kd.R_reads' HO_13.out).2.2 x14_6 p171 q171
                            cases e171
                            replace p171 := eq_true p171
                            replace q171 := eq_true q171
                            obtain ⟨Ao84, co84, eo84⟩ := Kd.R_slice HO_8.out
                            (first | subst eo84 | (injection eo84 with f1_ f2_ f3_; have f4_ := f1_.symm; have f5_ := f3_.symm; clear f1_ f2_ f3_; subst f4_; subst f5_))
                            have p172 : 0 ≤ (x14_6 : Int) := of_decide_eq_true ka
                            have q172 : x14_6 < (x8_3.length : Int) := of_decide_eq_true ka
                            obtain ⟨ad172, e172, hx172_0⟩ := Kd.at_int (Kd.R_reads' HO_8.out).2.2 x14_6 p172 q172
                            cases e172
                            replace p172 := eq_true p172
                            replace q172 := eq_true q172
                            refine start_ (n := 10) (S := fun w' => w'.cell? (ad171.add (x14_6).toNat) = some (.float .f64 (rdOf (0 : Nat) y168 x14_6)) ∧ w'.cell? (ad172.add (x14_6).toNat) = some (.int .u64 (rd x8_3 x14_6))) (ds := []) #[false, false, false, false, false, false, false, false, false, false] (by kernel_rfl) rfl rfl ⟨hx171_0, hx172_0⟩ (fun hHeld => ?_); refine with_tabW thicketlaw06_OrderOwn.tab33 thicketlaw06_OrderOwn.bits33 (fun HT_ HW_ => ?_)
                            generalize wr.drew = w83 at HO_3 HO_4 HO_6 HO_8 HO_13 HB hx171_0 hx172_0 hHeld ⊢
                            refine pure_ (i := 0) (N := some 116) (v := ?_) (a' := ?_) #[true, false, false, false, false, false, false, false, false, false] rfl rfl (any_of HT_.out (by kernel_rfl)) (fun _ _ _ h => h) (Or.inl ⟨by rfl, ?_⟩) ?_ ?_
                            rotate_left
                            ·intro w'
                             go_simp
                             with_reducible rfl
                            rotate_left
                            ·simp only [Act.put, List.setIfInBounds_toArray, List.set_cons_zero, List.set_cons_succ, i64_w, i32_w]
                             rfl
                            refine pure_ (i := 1) (N := some 117) (v := ?_) (a' := ?_) #[true, true, false, false, false, false, false, false, false, false] rfl rfl (any_of HT_.out (by kernel_rfl)) (fun _ _ _ h => h) (Or.inl ⟨by rfl, ?_⟩) ?_ ?_
                            rotate_left
                            ·intro w'
                             go_simp
                             with_reducible rfl
                            rotate_left
                            ·simp only [Act.put, List.setIfInBounds_toArray, List.set_cons_zero, List.set_cons_succ, i64_w, i32_w]
                             rfl
                            refine pure_ (i := 2) (N := some 118) (v := ?_) (a' := ?_) #[true, true, true, false, false, false, false, false, false, false] rfl rfl (any_of HT_.out (by kernel_rfl)) (fun _ _ _ h => h) (Or.inl ⟨by rfl, ?_⟩) ?_ ?_
                            rotate_left
                            ·intro w'
                             go_simp
                             with_reducible rfl
                            rotate_left
                            ·simp only [Act.put, List.setIfInBounds_toArray, List.set_cons_zero, List.set_cons_succ, i64_w, i32_w]
                             rfl
                            refine pure_ (i := 5) (N := some 121) (v := ?_) (a' := ?_) #[true, true, true, false, false, true, false, false, false, false] rfl rfl (any_of HT_.out (by kernel_rfl)) (fun _ _ _ h => h) (Or.inl ⟨by rfl, ?_⟩) ?_ ?_
                            rotate_left
                            ·intro w'
                             go_simp
                             with_reducible rfl
                            rotate_left
                            ·simp only [Act.put, List.setIfInBounds_toArray, List.set_cons_zero, List.set_cons_succ, i64_w, i32_w]
                             rfl
                            refine pure_ (i := 6) (N := some 122) (v := ?_) (a' := ?_) #[true, true, true, false, false, true, true, false, false, false] rfl rfl (any_of HT_.out (by kernel_rfl)) (fun _ _ _ h => h) (Or.inl ⟨by rfl, ?_⟩) ?_ ?_
                            rotate_left
                            ·intro w'
                             go_simp
                             with_reducible rfl
                            rotate_left
                            ·simp only [Act.put, List.setIfInBounds_toArray, List.set_cons_zero, List.set_cons_succ, i64_w, i32_w]
                             rfl
                            refine pure_ (i := 7) (N := some 123) (v := ?_) (a' := ?_) #[true, true, true, false, false, true, true, true, false, false] rfl rfl (any_of HT_.out (by kernel_rfl)) (fun _ _ _ h => h) (Or.inl ⟨by rfl, ?_⟩) ?_ ?_
                            rotate_left
                            ·intro w'
                             go_simp
                             with_reducible rfl
                            rotate_left
                            ·simp only [Act.put, List.setIfInBounds_toArray, List.set_cons_zero, List.set_cons_succ, i64_w, i32_w]
                             rfl
                            refine take_ (i := 3) (N := some 119) (v := ?_) (a' := ?_) #[true, true, true, true, false, true, true, true, false, false] rfl rfl (take_ofW HT_.out HW_.out (by kernel_rfl)) (fun _ _ _ h => h) (Or.inl ⟨by rfl, ?_⟩) hHeld ?_ ?_
                            rotate_left
                            ·rintro w' ⟨s0, s1⟩
                             go_simp
                             with_reducible rfl
                            rotate_left
                            ·simp only [Act.put, List.setIfInBounds_toArray, List.set_cons_zero, List.set_cons_succ, i64_w, i32_w]
                             rfl
                            refine pure_ (i := 4) (N := some 120) (v := ?_) (a' := ?_) #[true, true, true, true, true, true, true, true, false, false] rfl rfl (any_of HT_.out (by kernel_rfl)) (fun _ _ _ h => h) (Or.inl ⟨by rfl, ?_⟩) ?_ ?_
                            rotate_left
                            ·intro w'
                             go_simp
                             with_reducible rfl
                            rotate_left
                            ·simp only [Act.put, List.setIfInBounds_toArray, List.set_cons_zero, List.set_cons_succ, i64_w, i32_w]
                             rfl
                            refine take_ (i := 8) (N := some 124) (v := ?_) (a' := ?_) #[true, true, true, true, true, true, true, true, true, false] rfl rfl (take_ofW HT_.out HW_.out (by kernel_rfl)) (fun _ _ _ h => h) (Or.inl ⟨by rfl, ?_⟩) hHeld ?_ ?_
                            rotate_left
                            ·rintro w' ⟨s0, s1⟩
                             go_simp
                             with_reducible rfl
                            rotate_left
                            ·simp only [Act.put, List.setIfInBounds_toArray, List.set_cons_zero, List.set_cons_succ, i64_w, i32_w]
                             rfl
                            refine pure_ (i := 9) (N := some 125) (v := ?_) (a' := ?_) #[true, true, true, true, true, true, true, true, true, true] rfl rfl (any_of HT_.out (by kernel_rfl)) (fun _ _ _ h => h) (Or.inl ⟨by rfl, ?_⟩) ?_ ?_
                            rotate_left
                            ·intro w'
                             go_simp
                             with_reducible rfl
                            rotate_left
                            ·simp only [Act.put, List.setIfInBounds_toArray, List.set_cons_zero, List.set_cons_succ, i64_w, i32_w]
                             rfl
                            refine done_ (done_of HT_.out (by kernel_rfl)) ?_
                            try go_wp2
                            go_ret
                            exact ⟨by first | rfl | (simp [errW_none, errW_some] <;> rfl) | (simp [*, errW_none, errW_some] <;> rfl), kB0 HB⟩
                          ·rw [if_neg c77] at H
                           exact absurd H (by simp)
                         ·rw [if_neg c76] at H
                          exact absurd H (by simp)
                        ·rw [if_neg c75] at H
                         have c75b0 : decide (x14_6 < (y168.length : Int)) = false := decide_eq_false c75
                         clear c75
                         obtain ⟨ji85, hji85⟩ : ∃ j_ : Int, (wrap64 ((y131.length : Int) - 1)) = j_ := ⟨_, rfl⟩
                         replace H : (if 0 ≤ (ji85) then (if (ji85) < (y131.length : Int) then (if (feq (rdOf (0 : Nat) y131 (ji85)) 4611686018427387904) = true then (if 0 ≤ (wrap64 ((y131.length : Int) - 2)) then (if (wrap64 ((y131.length : Int) - 2)) < (y131.length : Int) then (if (feq (rdOf (0 : Nat) y131 (wrap64 ((y131.length : Int) - 2))) 4607182418800017408) = true then (if 0 ≤ (wrap64 ((y156.length : Int) - 1)) then (if (wrap64 ((y156.length : Int) - 1)) < (y156.length : Int) then (if (feq (rdOf (0 : Nat) y156 (wrap64 ((y156.length : Int) - 1))) 13840687554816376832) = true then (if 0 ≤ (wrap64 ((y159.length : Int) - 1)) then (if (wrap64 ((y159.length : Int) - 1)) < (y159.length : Int) then (if (feq (rdOf (0 : Nat) y159 (wrap64 ((y159.length : Int) - 1))) 13841813454723219456) = true then ((math_Inf.f 1).bind fun t177 => ((order_Below.f k6 y131 t177).bind fun t178 => (some (decide (t178 ≥ 2))))) else (some false)) else (none)) else (none)) else (some false)) else (none)) else (none)) else (some false)) else (none)) else (none)) else (some false)) else (none)) else (none)) = some r := by first | (rw [hji85] at H; exact H) | (simp only [hji85] at H ⊢; exact H)
                         have hji85w : (IntKind.i64.wrap ((y131.length : Int) - 1)) = ji85 := (i64_w _).trans hji85
                         by_cases c86 : 0 ≤ (ji85)
                         ·rw [if_pos c86] at H
                          have c86b0 : decide (0 ≤ (ji85)) = true := decide_eq_true c86
                          clear c86
                          by_cases c87 : (ji85) < (y131.length : Int)
                          ·rw [if_pos c87] at H
                           have c87b0 : decide ((ji85) < (y131.length : Int)) = true := decide_eq_true c87
                           clear c87
                           by_cases c88 : (feq (rdOf (0 : Nat) y131 (ji85)) 4611686018427387904) = true
                           ·rw [if_pos c88] at H
                            have c88b0 : (feq (rdOf (0 : Nat) y131 (ji85)) 4611686018427387904) = true := c88
                            clear c88
                            obtain ⟨ji89, hji89⟩ : ∃ j_ : Int, (wrap64 ((y131.length : Int) - 2)) = j_ := ⟨_, rfl⟩
                            replace H : (if 0 ≤ (ji89) then (if (ji89) < (y131.length : Int) then (if (feq (rdOf (0 : Nat) y131 (ji89)) 4607182418800017408) = true then (if 0 ≤ (wrap64 ((y156.length : Int) - 1)) then (if (wrap64 ((y156.length : Int) - 1)) < (y156.length : Int) then (if (feq (rdOf (0 : Nat) y156 (wrap64 ((y156.length : Int) - 1))) 13840687554816376832) = true then (if 0 ≤ (wrap64 ((y159.length : Int) - 1)) then (if (wrap64 ((y159.length : Int) - 1)) < (y159.length : Int) then (if (feq (rdOf (0 : Nat) y159 (wrap64 ((y159.length : Int) - 1))) 13841813454723219456) = true then ((math_Inf.f 1).bind fun t177 => ((order_Below.f k6 y131 t177).bind fun t178 => (some (decide (t178 ≥ 2))))) else (some false)) else (none)) else (none)) else (some false)) else (none)) else (none)) else (some false)) else (none)) else (none)) = some r := by first | (rw [hji89] at H; exact H) | (simp only [hji89] at H ⊢; exact H)
                            have hji89w : (IntKind.i64.wrap ((y131.length : Int) - 2)) = ji89 := (i64_w _).trans hji89
                            by_cases c90 : 0 ≤ (ji89)
                            ·rw [if_pos c90] at H
                             have c90b0 : decide (0 ≤ (ji89)) = true := decide_eq_true c90
                             clear c90
                             by_cases c91 : (ji89) < (y131.length : Int)
                             ·rw [if_pos c91] at H
                              have c91b0 : decide ((ji89) < (y131.length : Int)) = true := decide_eq_true c91
                              clear c91
                              by_cases c92 : (feq (rdOf (0 : Nat) y131 (ji89)) 4607182418800017408) = true
                              ·rw [if_pos c92] at H
                               have c92b0 : (feq (rdOf (0 : Nat) y131 (ji89)) 4607182418800017408) = true := c92
                               clear c92
                               obtain ⟨ji93, hji93⟩ : ∃ j_ : Int, (wrap64 ((y156.length : Int) - 1)) = j_ := ⟨_, rfl⟩
                               replace H : (if 0 ≤ (ji93) then (if (ji93) < (y156.length : Int) then (if (feq (rdOf (0 : Nat) y156 (ji93)) 13840687554816376832) = true then (if 0 ≤ (wrap64 ((y159.length : Int) - 1)) then (if (wrap64 ((y159.length : Int) - 1)) < (y159.length : Int) then (if (feq (rdOf (0 : Nat) y159 (wrap64 ((y159.length : Int) - 1))) 13841813454723219456) = true then ((math_Inf.f 1).bind fun t177 => ((order_Below.f k6 y131 t177).bind fun t178 => (some (decide (t178 ≥ 2))))) else (some false)) else (none)) else (none)) else (some false)) else (none)) else (none)) = some r := by first | (rw [hji93] at H; exact H) | (simp only [hji93] at H ⊢; exact H)
                               have hji93w : (IntKind.i64.wrap ((y156.length : Int) - 1)) = ji93 := (i64_w _).trans hji93
                               by_cases c94 : 0 ≤ (ji93)
                               ·rw [if_pos c94] at H
                                have c94b0 : decide (0 ≤ (ji93)) = true := decide_eq_true c94
                                clear c94
                                by_cases c95 : (ji93) < (y156.length : Int)
                                ·rw [if_pos c95] at H
                                 have c95b0 : decide ((ji93) < (y156.length : Int)) = true := decide_eq_true c95
                                 clear c95
                                 by_cases c96 : (feq (rdOf (0 : Nat) y156 (ji93)) 13840687554816376832) = true
                                 ·rw [if_pos c96] at H
                                  have c96b0 : (feq (rdOf (0 : Nat) y156 (ji93)) 13840687554816376832) = true := c96
                                  clear c96
                                  obtain ⟨ji97, hji97⟩ : ∃ j_ : Int, (wrap64 ((y159.length : Int) - 1)) = j_ := ⟨_, rfl⟩
                                  replace H : (if 0 ≤ (ji97) then (if (ji97) < (y159.length : Int) then (if (feq (rdOf (0 : Nat) y159 (ji97)) 13841813454723219456) = true then ((math_Inf.f 1).bind fun t177 => ((order_Below.f k6 y131 t177).bind fun t178 => (some (decide (t178 ≥ 2))))) else (some false)) else (none)) else (none)) = some r := by first | (rw [hji97] at H; exact H) | (simp only [hji97] at H ⊢; exact H)
                                  have hji97w : (IntKind.i64.wrap ((y159.length : Int) - 1)) = ji97 := (i64_w _).trans hji97
                                  by_cases c98 : 0 ≤ (ji97)
                                  ·rw [if_pos c98] at H
                                   have c98b0 : decide (0 ≤ (ji97)) = true := decide_eq_true c98
                                   clear c98
                                   by_cases c99 : (ji97) < (y159.length : Int)
                                   ·rw [if_pos c99] at H
                                    have c99b0 : decide ((ji97) < (y159.length : Int)) = true := decide_eq_true c99
                                    clear c99
                                    by_cases c100 : (feq (rdOf (0 : Nat) y159 (ji97)) 13841813454723219456) = true
                                    ·rw [if_pos c100] at H
                                     have c100b0 : (feq (rdOf (0 : Nat) y159 (ji97)) 13841813454723219456) = true := c100
                                     clear c100
                                     replace H := Option.bind_eq_some_iff.mp H
                                     obtain ⟨t177, A1010, H⟩ := H
                                     replace H : ((order_Below.f k6 y131 t177).bind fun t178 => (some (decide (t178 ≥ 2)))) = some r := H
                                     have A101 := Aside0.mk A1010
                                     clear A1010
                                     replace H := Option.bind_eq_some_iff.mp H
                                     obtain ⟨t178, A1020, H⟩ := H
                                     replace H : (some (decide (t178 ≥ 2))) = some r := H
                                     have A102 := Aside0.mk A1020
                                     clear A1020
                                     obtain rfl := Option.some.inj H
                                     obtain ⟨Ao103, co103, eo103⟩ := Kd.R_slice HO_13.out
                                     subst eo103
                                     have p173 : 0 ≤ ((ji85) : Int) := of_decide_eq_true ka
                                     have q173 : (ji85) < (y131.length : Int) := of_decide_eq_true ka
                                     obtain ⟨ad173, e173, hx173_0⟩ := Kd.at_f64 (Kd.R_reads' HO_3.out).2.2 (ji85) p173 q173
                                     cases e173
                                     replace p173 := eq_true p173
                                     replace q173 := eq_true q173
                                     have p174 : 0 ≤ ((ji89) : Int) := of_decide_eq_true ka
                                     have q174 : (ji89) < (y131.length : Int) := of_decide_eq_true ka
                                     obtain ⟨ad174, e174, hx174_0⟩ := Kd.at_f64 (Kd.R_reads' HO_3.out).2.2 (ji89) p174 q174
                                     obtain rfl : ad173 = ad174 := (by injection e174)
                                     replace p174 := eq_true p174
                                     replace q174 := eq_true q174
                                     obtain ⟨Ao104, co104, eo104⟩ := Kd.R_slice HO_4.out
                                     subst eo104
                                     have p175 : 0 ≤ ((ji93) : Int) := of_decide_eq_true ka
                                     have q175 : (ji93) < (y156.length : Int) := of_decide_eq_true ka
                                     obtain ⟨ad175, e175, hx175_0⟩ := Kd.at_f64 (Kd.R_reads' HO_4.out).2.2 (ji93) p175 q175
                                     cases e175
                                     replace p175 := eq_true p175
                                     replace q175 := eq_true q175
                                     obtain ⟨Ao105, co105, eo105⟩ := Kd.R_slice HO_6.out
                                     subst eo105
                                     have p176 : 0 ≤ ((ji97) : Int) := of_decide_eq_true ka
                                     have q176 : (ji97) < (y159.length : Int) := of_decide_eq_true ka
                                     obtain ⟨ad176, e176, hx176_0⟩ := Kd.at_f64 (Kd.R_reads' HO_6.out).2.2 (ji97) p176 q176
                                     cases e176
                                     replace p176 := eq_true p176
                                     replace q176 := eq_true q176
                                     go_wp2_with (first | (go_at_call 20; (with_reducible refine (math_Inf.calls 1 t177 _ A101.out).mono ?_); rintro e w' ⟨rfl, ⟨nd, rfl⟩⟩) | (go_at_call 13; (with_reducible refine (order_Below.calls k6 _ _ y131 t177 t178 _ ?side1 ?side2 A102.out).mono ?_); (case side1 => repeat (first | exact (Kd.R_reads' HO_3.out).2.2 | (with_reducible refine Kd.C_alloc ?_ _) | (with_reducible refine Kd.C_drewN ?_ _) | (with_reducible refine Kd.C_drew ?_))); (case side2 => exact (Kd.R_reads' HO_3.out).2.1); rintro e w' ⟨rfl, ⟨nd, rfl⟩⟩))
                                     go_ret
                                     exact ⟨by first | rfl | (simp [errW_none, errW_some] <;> rfl) | (simp only [← hji85, ← hji89, ← hji93, ← hji97]; first | rfl | (simp [errW_none, errW_some] <;> rfl)) | (simp [*, errW_none, errW_some] <;> rfl), kB0 HB⟩
                                    ·rw [if_neg c100] at H
                                     have c100b0 : (feq (rdOf (0 : Nat) y159 (ji97)) 13841813454723219456) = false := by simpa using c100
                                     clear c100
                                     obtain rfl := Option.some.inj H
                                     obtain ⟨Ao106, co106, eo106⟩ := Kd.R_slice HO_13.out
                                     subst eo106
                                     have p173 : 0 ≤ ((ji85) : Int) := of_decide_eq_true ka
                                     have q173 : (ji85) < (y131.length : Int) := of_decide_eq_true ka
                                     obtain ⟨ad173, e173, hx173_0⟩ := Kd.at_f64 (Kd.R_reads' HO_3.out).2.2 (ji85) p173 q173
                                     cases e173
                                     replace p173 := eq_true p173
                                     replace q173 := eq_true q173
                                     have p174 : 0 ≤ ((ji89) : Int) := of_decide_eq_true ka
                                     have q174 : (ji89) < (y131.length : Int) := of_decide_eq_true ka
                                     obtain ⟨ad174, e174, hx174_0⟩ := Kd.at_f64 (Kd.R_reads' HO_3.out).2.2 (ji89) p174 q174
                                     obtain rfl : ad173 = ad174 := (by injection e174)
                                     replace p174 := eq_true p174
                                     replace q174 := eq_true q174
                                     obtain ⟨Ao107, co107, eo107⟩ := Kd.R_slice HO_4.out
                                     subst eo107
                                     have p175 : 0 ≤ ((ji93) : Int) := of_decide_eq_true ka
                                     have q175 : (ji93) < (y156.length : Int) := of_decide_eq_true ka
                                     obtain ⟨ad175, e175, hx175_0⟩ := Kd.at_f64 (Kd.R_reads' HO_4.out).2.2 (ji93) p175 q175
                                     cases e175
                                     replace p175 := eq_true p175
                                     replace q175 := eq_true q175
                                     obtain ⟨Ao108, co108, eo108⟩ := Kd.R_slice HO_6.out
                                     subst eo108
                                     have p176 : 0 ≤ ((ji97) : Int) := of_decide_eq_true ka
                                     have q176 : (ji97) < (y159.length : Int) := of_decide_eq_true ka
                                     obtain ⟨ad176, e176, hx176_0⟩ := Kd.at_f64 (Kd.R_reads' HO_6.out).2.2 (ji97) p176 q176
                                     cases e176
                                     replace p176 := eq_true p176
                                     replace q176 := eq_true q176
                                     go_wp2
                                     go_ret
                                     exact ⟨by first | rfl | (simp [errW_none, errW_some] <;> rfl) | (simp only [← hji85, ← hji89, ← hji93, ← hji97]; first | rfl | (simp [errW_none, errW_some] <;> rfl)) | (simp [*, errW_none, errW_some] <;> rfl), kB0 HB⟩
                                   ·rw [if_neg c99] at H
                                    exact absurd H (by simp)
                                  ·rw [if_neg c98] at H
                                   exact absurd H (by simp)
                                 ·rw [if_neg c96] at H
                                  have c96b0 : (feq (rdOf (0 : Nat) y156 (ji93)) 13840687554816376832) = false := by simpa using c96
                                  clear c96
                                  obtain rfl := Option.some.inj H
                                  obtain ⟨Ao109, co109, eo109⟩ := Kd.R_slice HO_13.out
                                  subst eo109
                                  have p173 : 0 ≤ ((ji85) : Int) := of_decide_eq_true ka
                                  have q173 : (ji85) < (y131.length : Int) := of_decide_eq_true ka
                                  obtain ⟨ad173, e173, hx173_0⟩ := Kd.at_f64 (Kd.R_reads' HO_3.out).2.2 (ji85) p173 q173
                                  cases e173
                                  replace p173 := eq_true p173
                                  replace q173 := eq_true q173
                                  have p174 : 0 ≤ ((ji89) : Int) := of_decide_eq_true ka
                                  have q174 : (ji89) < (y131.length : Int) := of_decide_eq_true ka
                                  obtain ⟨ad174, e174, hx174_0⟩ := Kd.at_f64 (Kd.R_reads' HO_3.out).2.2 (ji89) p174 q174
                                  obtain rfl : ad173 = ad174 := (by injection e174)
                                  replace p174 := eq_true p174
                                  replace q174 := eq_true q174
                                  obtain ⟨Ao110, co110, eo110⟩ := Kd.R_slice HO_4.out
                                  subst eo110
                                  have p175 : 0 ≤ ((ji93) : Int) := of_decide_eq_true ka
                                  have q175 : (ji93) < (y156.length : Int) := of_decide_eq_true ka
                                  obtain ⟨ad175, e175, hx175_0⟩ := Kd.at_f64 (Kd.R_reads' HO_4.out).2.2 (ji93) p175 q175
                                  cases e175
                                  replace p175 := eq_true p175
                                  replace q175 := eq_true q175
                                  go_wp2
                                  go_ret
                                  exact ⟨by first | rfl | (simp [errW_none, errW_some] <;> rfl) | (simp only [← hji85, ← hji89, ← hji93]; first | rfl | (simp [errW_none, errW_some] <;> rfl)) | (simp [*, errW_none, errW_some] <;> rfl), kB0 HB⟩
                                ·rw [if_neg c95] at H
                                 exact absurd H (by simp)
                               ·rw [if_neg c94] at H
                                exact absurd H (by simp)
                              ·rw [if_neg c92] at H
                               have c92b0 : (feq (rdOf (0 : Nat) y131 (ji89)) 4607182418800017408) = false := by simpa using c92
                               clear c92
                               obtain rfl := Option.some.inj H
                               obtain ⟨Ao111, co111, eo111⟩ := Kd.R_slice HO_13.out
                               subst eo111
                               have p173 : 0 ≤ ((ji85) : Int) := of_decide_eq_true ka
                               have q173 : (ji85) < (y131.length : Int) := of_decide_eq_true ka
                               obtain ⟨ad173, e173, hx173_0⟩ := Kd.at_f64 (Kd.R_reads' HO_3.out).2.2 (ji85) p173 q173
                               cases e173
                               replace p173 := eq_true p173
                               replace q173 := eq_true q173
                               have p174 : 0 ≤ ((ji89) : Int) := of_decide_eq_true ka
                               have q174 : (ji89) < (y131.length : Int) := of_decide_eq_true ka
                               obtain ⟨ad174, e174, hx174_0⟩ := Kd.at_f64 (Kd.R_reads' HO_3.out).2.2 (ji89) p174 q174
                               obtain rfl : ad173 = ad174 := (by injection e174)
                               replace p174 := eq_true p174
                               replace q174 := eq_true q174
                               go_wp2
                               go_ret
                               exact ⟨by first | rfl | (simp [errW_none, errW_some] <;> rfl) | (simp only [← hji85, ← hji89]; first | rfl | (simp [errW_none, errW_some] <;> rfl)) | (simp [*, errW_none, errW_some] <;> rfl), kB0 HB⟩
                             ·rw [if_neg c91] at H
                              exact absurd H (by simp)
                            ·rw [if_neg c90] at H
                             exact absurd H (by simp)
                           ·rw [if_neg c88] at H
                            have c88b0 : (feq (rdOf (0 : Nat) y131 (ji85)) 4611686018427387904) = false := by simpa using c88
                            clear c88
                            obtain rfl := Option.some.inj H
                            obtain ⟨Ao112, co112, eo112⟩ := Kd.R_slice HO_13.out
                            subst eo112
                            have p173 : 0 ≤ ((ji85) : Int) := of_decide_eq_true ka
                            have q173 : (ji85) < (y131.length : Int) := of_decide_eq_true ka
                            obtain ⟨ad173, e173, hx173_0⟩ := Kd.at_f64 (Kd.R_reads' HO_3.out).2.2 (ji85) p173 q173
                            cases e173
                            replace p173 := eq_true p173
                            replace q173 := eq_true q173
                            go_wp2
                            go_ret
                            exact ⟨by first | rfl | (simp [errW_none, errW_some] <;> rfl) | (simp only [← hji85]; first | rfl | (simp [errW_none, errW_some] <;> rfl)) | (simp [*, errW_none, errW_some] <;> rfl), kB0 HB⟩
                          ·rw [if_neg c87] at H
                           exact absurd H (by simp)
                         ·rw [if_neg c86] at H
                          exact absurd H (by simp)
                     ·rw [if_neg c67] at H
                      exact absurd H (by simp)
                    ·rw [if_neg c66] at H
                     exact absurd H (by simp)
                   ·rw [if_neg c65] at H
                    exact absurd H (by simp)
                  ·rw [if_neg c64] at H
                   exact absurd H (by simp)
  ·rw [if_neg c5] at H
   exact absurd H (by simp)
 ·replace c3 := Bool.eq_false_iff.mpr c3
  subst c3
  have H1 : (some false) = some r := by rw [if_neg (show ¬ (false = true) by decide)] at H; exact H
  clear H
  have H := H1
  clear H1
  obtain rfl := Option.some.inj H
  go_enter Try.func5, Try.ntmps5
  go_wp2_with (first | ((with_reducible refine gate_callee (f := 15) rfl ?_); refine goesL_ (some 15) rfl rfl Try.func15 (by kernel_rfl) rfl #[] rfl (by (try simp only [List.map_toArray, List.map_cons, List.map_nil]); first | done | rfl | (simp only [List.length_drop, List.length_take]; rfl)) ?_; (with_reducible refine (thicketlaw06_begins.calls  false _ A2.out).mono ?_); rintro e w' ⟨rfl, ⟨nd, rfl⟩⟩; refine ⟨_, rfl, ?_⟩))
  go_ret
  exact ⟨by first | rfl | (simp [errW_none, errW_some] <;> rfl) | (simp [*, errW_none, errW_some] <;> rfl), kB0 HB⟩
/-- THE ONE PURE STATEMENT of thicketlaw06_OrderOwn: yours. -/
def thicketlaw06_OrderOwn.Pure : Prop := ∀ (l0 : List Int), l0.length ≤ maxLen → l0.length * 8 ≤ 140737488351232 → (∀ x ∈ l0, (Lit.int .u64 x).wf = true) → ∃ k, thicketlaw06_OrderOwn.f k l0 = some true
theorem thicketlaw06_OrderOwn.walk (P : thicketlaw06_OrderOwn.Pure) (a0 : Option Addr) (len0 cap0 : Nat) (z0 : List Int) (w : World) (w0 : (a0 = none ∧ len0 = 0 ∧ cap0 = 0 ∧ z0 = []) ∨ ∃ x, a0 = some x ∧ len0 ≤ cap0 ∧ cap0 ≤ maxLen ∧ z0.length = cap0 ∧ (∀ i, i < z0.length → w.cell? (x.add i) = some (.int .u64 (z0.getD i 0))) ∧ ∀ n ∈ z0, (Lit.int .u64 n).wf = true) (y0 : len0 * 8 ≤ 140737488351232) :
  Calls Try.prog 5 #[.slice a0 len0 cap0] w fun e w' => e = .returned (.bool true) ∧ Below w.heap.size w w' := by
 obtain ⟨l0, rfl, hr0, hm0, hw0, hc0⟩ := ReadsInt.ofRowC w0
 obtain ⟨k, h⟩ := P l0 hm0 y0 hw0
 refine (thicketlaw06_OrderOwn.calls k _ _ l0 true w (Kd.C_of_reads (d := (0 : Int)) (h1 := fun _ => rfl) hr0) hc0 h).mono ?_
 rintro e w' ⟨rfl, hd⟩
 exact ⟨rfl, hd⟩
end Go.Proofs.Ytdhiljimmijghaa.FAll
