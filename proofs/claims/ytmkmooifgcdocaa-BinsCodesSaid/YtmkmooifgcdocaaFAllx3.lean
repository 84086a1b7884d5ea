-- written by fprint.sh, a program of ours over the kit's print: not by hand
import Derived.Test.YtmkmooifgcdocaaFAllx0
import Derived.Test.YtmkmooifgcdocaaFAllx2
namespace Go.Proofs.Ytmkmooifgcdocaa.FAll
open Go.RowKit Go.Proofs.YtmkmooifgcdocaaW.PrintWords Go.Proofs.YtmkmooifgcdocaaW.PrintLast Go.Proofs.YtmkmooifgcdocaaW.PrintMore
attribute [local go_sem] feq_walk fne_walk flt_walk fle_walk fgt_walk fge_walk fint_walk run_f64bits run_f64from max2_int min2_int max_two min_two max_three min_three max_four min_four   -- for this text's walks alone
set_option linter.unusedVariables false
set_option linter.unusedSimpArgs false
/-! ### bins_Right: function 8 -/
mutual
def bins_Right.j0 : Nat → Bool → List (List Nat) → List (List Int) → Option (Bool)
 | 0, _, _, _ => none
 | k + 1, x29, x107000, x107001 => if x29 = true then (some false) else (bins_Right.l0 k x107000 (x107000.length : Int) 0 x107000 x107001)
def bins_Right.l0 : Nat → List (List Nat) → Int → Int → List (List Nat) → List (List Int) → Option (Bool)
 | 0, _, _, _, _, _ => none
 | k + 1, x31, x32, x33, x107000, x107001 => if x33 < x32 then (if 0 ≤ x33 then (if x33 < (x31.length : Int) then (bins_Right.l1 k (rd_L1 x31 x33) x31 x32 x33 (rd_L1 x31 x33) ((rd_L1 x31 x33).length : Int) 0 x107000 x107001) else (none)) else (none)) else (bins_Right.l2 k x107001 (x107001.length : Int) 0)
def bins_Right.l1 : Nat → List Nat → List (List Nat) → Int → Int → List Nat → Int → Int → List (List Nat) → List (List Int) → Option (Bool)
 | 0, _, _, _, _, _, _, _, _, _ => none
 | k + 1, x4, x31, x32, x33, x37, x38, x39, x107000, x107001 => if x39 < x38 then (if 0 ≤ x39 then (if x39 < (x37.length : Int) then (if ((feq (rdOf (0 : Nat) x37 x39) (rdOf (0 : Nat) x37 x39)) = true) then (if (feq (rdOf (0 : Nat) x37 x39) 0) = true then ((math_Signbit.f (rdOf (0 : Nat) x37 x39)).bind fun t109 => (if t109 = true then (some false) else (if x39 > 0 then (if 0 ≤ (wrap64 (x39 - 1)) then (if (wrap64 (x39 - 1)) < (x4.length : Int) then ((order_Compare.f (rdOf (0 : Nat) x4 (wrap64 (x39 - 1))) (rdOf (0 : Nat) x37 x39)).bind fun t111 => (if t111 ≥ 0 then (some false) else (bins_Right.l1 k x4 x31 x32 x33 x37 x38 (wrap64 (x39 + 1)) x107000 x107001))) else (none)) else (none)) else (bins_Right.l1 k x4 x31 x32 x33 x37 x38 (wrap64 (x39 + 1)) x107000 x107001)))) else (if x39 > 0 then (if 0 ≤ (wrap64 (x39 - 1)) then (if (wrap64 (x39 - 1)) < (x4.length : Int) then ((order_Compare.f (rdOf (0 : Nat) x4 (wrap64 (x39 - 1))) (rdOf (0 : Nat) x37 x39)).bind fun t113 => (if t113 ≥ 0 then (some false) else (bins_Right.l1 k x4 x31 x32 x33 x37 x38 (wrap64 (x39 + 1)) x107000 x107001))) else (none)) else (none)) else (bins_Right.l1 k x4 x31 x32 x33 x37 x38 (wrap64 (x39 + 1)) x107000 x107001))) else (some false)) else (none)) else (none)) else (bins_Right.l0 k x31 x32 (wrap64 (x33 + 1)) x107000 x107001)
def bins_Right.l2 : Nat → List (List Int) → Int → Int → Option (Bool)
 | 0, _, _, _ => none
 | k + 1, x72, x73, x74 => if x74 < x73 then (if 0 ≤ x74 then (if x74 < (x72.length : Int) then (bins_Right.l3 k (rd_L3 x72 x74) x72 x73 x74 (rd_L3 x72 x74) ((rd_L3 x72 x74).length : Int) 0) else (none)) else (none)) else (some true)
def bins_Right.l3 : Nat → List Int → List (List Int) → Int → Int → List Int → Int → Int → Option (Bool)
 | 0, _, _, _, _, _, _, _ => none
 | k + 1, x8, x72, x73, x74, x78, x79, x80 => if x80 < x79 then (if 0 ≤ x80 then (if x80 < (x78.length : Int) then (if (rd x78 x80) < 0 then (some false) else (if (rd x78 x80) ≥ 1024 then (some false) else (if x80 > 0 then (if 0 ≤ (wrap64 (x80 - 1)) then (if (wrap64 (x80 - 1)) < (x8.length : Int) then (if (rd x78 x80) ≤ (rd x8 (wrap64 (x80 - 1))) then (some false) else (bins_Right.l3 k x8 x72 x73 x74 x78 x79 (wrap64 (x80 + 1)))) else (none)) else (none)) else (bins_Right.l3 k x8 x72 x73 x74 x78 x79 (wrap64 (x80 + 1)))))) else (none)) else (none)) else (bins_Right.l2 k x72 x73 (wrap64 (x74 + 1)))
end
def bins_Right.f (k : Nat) (l0_0 : List (List Nat)) (l0_1 : List (List Int)) : Option (Bool) := if (l0_0.length : Int) = (l0_1.length : Int) then (if (l0_0.length : Int) < 1 then (bins_Right.j0 k true l0_0 l0_1) else (bins_Right.j0 k (decide ((l0_0.length : Int) > 65536)) l0_0 l0_1)) else (bins_Right.j0 k true l0_0 l0_1)
theorem bins_Right.mono_l : ∀ k, (∀ y0 y1 y2, LeO (bins_Right.j0 k y0 y1 y2) (bins_Right.j0 (k + 1) y0 y1 y2)) ∧ (∀ y0 y1 y2 y3 y4, LeO (bins_Right.l0 k y0 y1 y2 y3 y4) (bins_Right.l0 (k + 1) y0 y1 y2 y3 y4)) ∧ (∀ y0 y1 y2 y3 y4 y5 y6 y7 y8, LeO (bins_Right.l1 k y0 y1 y2 y3 y4 y5 y6 y7 y8) (bins_Right.l1 (k + 1) y0 y1 y2 y3 y4 y5 y6 y7 y8)) ∧ (∀ y0 y1 y2, LeO (bins_Right.l2 k y0 y1 y2) (bins_Right.l2 (k + 1) y0 y1 y2)) ∧ (∀ y0 y1 y2 y3 y4 y5 y6, LeO (bins_Right.l3 k y0 y1 y2 y3 y4 y5 y6) (bins_Right.l3 (k + 1) y0 y1 y2 y3 y4 y5 y6))
 | 0 => ⟨fun _ _ _ r h => by simp [bins_Right.j0] at h, fun _ _ _ _ _ r h => by simp [bins_Right.l0] at h, fun _ _ _ _ _ _ _ _ _ r h => by simp [bins_Right.l1] at h, fun _ _ _ r h => by simp [bins_Right.l2] at h, fun _ _ _ _ _ _ _ r h => by simp [bins_Right.l3] at h⟩
 | k + 1 => by
  obtain ⟨ih0, ih1, ih2, ih3, ih4⟩ := bins_Right.mono_l k
  refine ⟨?_, ?_, ?_, ?_, ?_⟩
  ·intro y0 y1 y2
   unfold bins_Right.j0
   repeat' first
   | (with_reducible exact ih0 _ _ _)
   | (with_reducible exact ih1 _ _ _ _ _)
   | (with_reducible exact ih2 _ _ _ _ _ _ _ _ _)
   | (with_reducible exact ih3 _ _ _)
   | (with_reducible exact ih4 _ _ _ _ _ _ _)
   | (with_reducible exact LeO.refl _)
   | (with_reducible exact LeO.none _)
   | (with_reducible refine LeO.ite ?_ ?_)
   | (with_reducible refine LeO.bind ?_ (fun _ => ?_))
   | exact ih0 _ _ _
   | exact ih1 _ _ _ _ _
   | exact ih2 _ _ _ _ _ _ _ _ _
   | exact ih3 _ _ _
   | exact ih4 _ _ _ _ _ _ _
   | exact LeO.none _
   | refine LeO.ite ?_ ?_
   | refine LeO.bind ?_ (fun _ => ?_)
  ·intro y0 y1 y2 y3 y4
   unfold bins_Right.l0
   repeat' first
   | (with_reducible exact ih0 _ _ _)
   | (with_reducible exact ih1 _ _ _ _ _)
   | (with_reducible exact ih2 _ _ _ _ _ _ _ _ _)
   | (with_reducible exact ih3 _ _ _)
   | (with_reducible exact ih4 _ _ _ _ _ _ _)
   | (with_reducible exact LeO.refl _)
   | (with_reducible exact LeO.none _)
   | (with_reducible refine LeO.ite ?_ ?_)
   | (with_reducible refine LeO.bind ?_ (fun _ => ?_))
   | exact ih0 _ _ _
   | exact ih1 _ _ _ _ _
   | exact ih2 _ _ _ _ _ _ _ _ _
   | exact ih3 _ _ _
   | exact ih4 _ _ _ _ _ _ _
   | exact LeO.none _
   | refine LeO.ite ?_ ?_
   | refine LeO.bind ?_ (fun _ => ?_)
  ·intro y0 y1 y2 y3 y4 y5 y6 y7 y8
   unfold bins_Right.l1
   repeat' first
   | (with_reducible exact ih0 _ _ _)
   | (with_reducible exact ih1 _ _ _ _ _)
   | (with_reducible exact ih2 _ _ _ _ _ _ _ _ _)
   | (with_reducible exact ih3 _ _ _)
   | (with_reducible exact ih4 _ _ _ _ _ _ _)
   | (with_reducible exact LeO.refl _)
   | (with_reducible exact LeO.none _)
   | (with_reducible refine LeO.ite ?_ ?_)
   | (with_reducible refine LeO.bind ?_ (fun _ => ?_))
   | exact ih0 _ _ _
   | exact ih1 _ _ _ _ _
   | exact ih2 _ _ _ _ _ _ _ _ _
   | exact ih3 _ _ _
   | exact ih4 _ _ _ _ _ _ _
   | exact LeO.none _
   | refine LeO.ite ?_ ?_
   | refine LeO.bind ?_ (fun _ => ?_)
  ·intro y0 y1 y2
   unfold bins_Right.l2
   repeat' first
   | (with_reducible exact ih0 _ _ _)
   | (with_reducible exact ih1 _ _ _ _ _)
   | (with_reducible exact ih2 _ _ _ _ _ _ _ _ _)
   | (with_reducible exact ih3 _ _ _)
   | (with_reducible exact ih4 _ _ _ _ _ _ _)
   | (with_reducible exact LeO.refl _)
   | (with_reducible exact LeO.none _)
   | (with_reducible refine LeO.ite ?_ ?_)
   | (with_reducible refine LeO.bind ?_ (fun _ => ?_))
   | exact ih0 _ _ _
   | exact ih1 _ _ _ _ _
   | exact ih2 _ _ _ _ _ _ _ _ _
   | exact ih3 _ _ _
   | exact ih4 _ _ _ _ _ _ _
   | exact LeO.none _
   | refine LeO.ite ?_ ?_
   | refine LeO.bind ?_ (fun _ => ?_)
  ·intro y0 y1 y2 y3 y4 y5 y6
   unfold bins_Right.l3
   repeat' first
   | (with_reducible exact ih0 _ _ _)
   | (with_reducible exact ih1 _ _ _ _ _)
   | (with_reducible exact ih2 _ _ _ _ _ _ _ _ _)
   | (with_reducible exact ih3 _ _ _)
   | (with_reducible exact ih4 _ _ _ _ _ _ _)
   | (with_reducible exact LeO.refl _)
   | (with_reducible exact LeO.none _)
   | (with_reducible refine LeO.ite ?_ ?_)
   | (with_reducible refine LeO.bind ?_ (fun _ => ?_))
   | exact ih0 _ _ _
   | exact ih1 _ _ _ _ _
   | exact ih2 _ _ _ _ _ _ _ _ _
   | exact ih3 _ _ _
   | exact ih4 _ _ _ _ _ _ _
   | exact LeO.none _
   | refine LeO.ite ?_ ?_
   | refine LeO.bind ?_ (fun _ => ?_)
theorem bins_Right.mono : ∀ a0 a1 k, LeO (bins_Right.f k a0 a1) (bins_Right.f (k + 1) a0 a1) := by
 intro a0 a1 k
 obtain ⟨ih0, ih1, ih2, ih3, ih4⟩ := bins_Right.mono_l k
 unfold bins_Right.f
 repeat' first
   | (with_reducible exact ih0 _ _ _)
   | (with_reducible exact ih1 _ _ _ _ _)
   | (with_reducible exact ih2 _ _ _ _ _ _ _ _ _)
   | (with_reducible exact ih3 _ _ _)
   | (with_reducible exact ih4 _ _ _ _ _ _ _)
   | (with_reducible exact LeO.refl _)
   | (with_reducible exact LeO.none _)
   | (with_reducible refine LeO.ite ?_ ?_)
   | (with_reducible refine LeO.bind ?_ (fun _ => ?_))
   | exact ih0 _ _ _
   | exact ih1 _ _ _ _ _
   | exact ih2 _ _ _ _ _ _ _ _ _
   | exact ih3 _ _ _
   | exact ih4 _ _ _ _ _ _ _
   | exact LeO.none _
   | refine LeO.ite ?_ ?_
   | refine LeO.bind ?_ (fun _ => ?_)
set_option maxHeartbeats 8000000 in
set_option maxRecDepth 100000 in
theorem bins_Right.calls (k : Nat) (A0_0 : Option Addr) (c0_0 : Nat) (l0_0 : List (List Nat)) (A0_1 : Option Addr) (c0_1 : Nat) (l0_1 : List (List Int)) (r : Bool) (w : World) (hr0_0 : Kd.C (Kd.slice 33 Kd.f64) w A0_0 l0_0.length l0_0) (hc0_0 : l0_0.length ≤ c0_0) (hr0_1 : Kd.C (Kd.slice 3 (Kd.int .i64)) w A0_1 l0_1.length l0_1) (hc0_1 : l0_1.length ≤ c0_1) (h : bins_Right.f k l0_0 l0_1 = some r) :
  Calls Try.prog 8 #[.agg #[.slice A0_0 l0_0.length c0_0, .slice A0_1 l0_1.length c0_1]] w fun e w' => e = .returned (.bool r) ∧ Below w.heap.size w w' := by
 have hu25 := Try.underlying25
 have HR0_0 := Aside0.mk hr0_0
 have HC0_0 := Aside0.mk hc0_0
 clear hr0_0 hc0_0
 have HR0_1 := Aside0.mk hr0_1
 have HC0_1 := Aside0.mk hc0_1
 clear hr0_1 hc0_1
 have HB := Aside0.mk (Below.refl w.heap.size w)
 have H : (if (l0_0.length : Int) = (l0_1.length : Int) then (if (l0_0.length : Int) < 1 then (bins_Right.j0 k true l0_0 l0_1) else (bins_Right.j0 k (decide ((l0_0.length : Int) > 65536)) l0_0 l0_1)) else (bins_Right.j0 k true l0_0 l0_1)) = some r := h
 clear h
 have HC2 := Aside0.mk H
 clear H
 go_enter Try.func8, Try.ntmps8
 go_upto_region 1 with (first | ((with_reducible refine gate_dst (N := 1) rfl ?_); (try (refine gate_guard (by rfl) ?_; dsimp only)); refine box_event ?hg (N := 1) ?hd (cs := #[.slice A0_0 l0_0.length c0_0, .slice A0_1 l0_1.length c0_1]) (t := 25) ?hr ?_; (case hd => rfl); (case hg => rfl); (case hr => first | (go_simp; done) | (go_simp; rfl)); intro gb106 hg w3 hbox hb; have n0_ := Aside0.mk (below_step (by repeat (first | (with_reducible first | exact HB.out | apply below_alloc | apply pw_below_drewN | apply below_drew1) | exact HB.out)) hb); have n1_ := Aside0.mk (hbox); have n2_ := Aside0.mk ((by rw [hg]; exact (below_size (by repeat (first | (with_reducible first | exact HB.out | apply below_alloc | apply pw_below_drewN | apply below_drew1) | exact HB.out))) : w.heap.size ≤ gb106)); have n3_ := Aside0.mk ((by rw [hg]; exact (below_size (by repeat (first | (with_reducible first | exact HB.out | apply below_alloc | apply pw_below_drewN | apply below_drew1) | exact HB.out))) : w.heap.size ≤ gb106)); clear HB; have HB := n0_; have BK106 := n1_; have GW106 := n2_; have GE106 := n3_; clear n0_ n1_ n2_ n3_; clear hb hbox hg))
 (try simp only [Act.put, List.setIfInBounds_toArray, List.set_cons_zero, List.set_cons_succ])
 go_cut [29] (fun v29 wc => ∃ (kq : Nat) (x29_1 : Bool), v29 = .bool x29_1 ∧ Aside0 (bins_Right.j0 kq x29_1 l0_0 l0_1 = some r) ∧ Aside0 (kq ≤ k) ∧ Aside0 (wc.heap[gb106]? = some (.cells #[(.slice A0_0 l0_0.length c0_0), (.slice A0_1 l0_1.length c0_1)] 25 (0, 0))) ∧ Aside0 (Below w.heap.size w wc))
 case first =>
  have H := HC2.out
  clear HC2
  by_cases c4 : (l0_0.length : Int) = (l0_1.length : Int)
  ·rw [if_pos c4] at H
   have c4b0 : ((l0_0.length : Int) == (l0_1.length : Int)) = true := beq_iff_eq.mpr c4
   have c4b1 : ((l0_0.length : Int) != (l0_1.length : Int)) = false := bne_eq_false_iff_eq.mpr c4
   have c4b2 : (l0_0.length == l0_1.length) = true := by first | simpa using c4 | (simp at c4 ⊢; omega)
   clear c4
   (first | rw [c4b0] | (simp only [i64_w, i32_w]; rw [c4b0]) | skip)
   by_cases c5 : (l0_0.length : Int) < 1
   ·rw [if_pos c5] at H
    have c5b0 : decide ((l0_0.length : Int) < 1) = true := decide_eq_true c5
    have c5b1 : decide (l0_0.length < 1) = true := decide_eq_true (by omega)
    clear c5
    have H' := Aside0.mk H
    clear H
    have hcz6_0 : w3.cell? ⟨gb106, 0, none⟩ = some (.slice A0_0 l0_0.length c0_0) := (blk_cell BK106.out 0).trans rfl
    have hcz6_1 : w3.cell? ⟨gb106, 1, none⟩ = some (.slice A0_1 l0_1.length c0_1) := (blk_cell BK106.out 1).trans rfl
    have hfz6_0 := blk_frozen BK106.out 0
    have hfz6_1 := blk_frozen BK106.out 1
    go_wp2
    go_meet
    case rel => exact ⟨_, (true), (by first | rfl | (simp; done) | (simp [*]; done)), H', ⟨by first | omega | exact Nat.le_refl _⟩, ⟨by (with_reducible repeat (first | refine blk_drewN ?_ _ | refine blk_drew ?_ | refine blk_alloc ?_ _)); exact BK106.out⟩, ⟨by repeat (first | (with_reducible first | exact HB.out | apply below_alloc | apply pw_below_drewN | apply below_drew1 | refine below_set ?_ GE106.out) | exact HB.out)⟩⟩
   ·rw [if_neg c5] at H
    have c5b0 : decide ((l0_0.length : Int) < 1) = false := decide_eq_false c5
    have c5b1 : decide (l0_0.length < 1) = false := decide_eq_false (by omega)
    clear c5
    have H' := Aside0.mk H
    clear H
    have hcz7_0 : w3.cell? ⟨gb106, 0, none⟩ = some (.slice A0_0 l0_0.length c0_0) := (blk_cell BK106.out 0).trans rfl
    have hcz7_1 : w3.cell? ⟨gb106, 1, none⟩ = some (.slice A0_1 l0_1.length c0_1) := (blk_cell BK106.out 1).trans rfl
    have hfz7_0 := blk_frozen BK106.out 0
    have hfz7_1 := blk_frozen BK106.out 1
    go_wp2
    go_meet
    case rel => exact ⟨_, (decide ((l0_0.length : Int) > 65536)), (by first | rfl | (simp; done) | (simp [*]; done)), H', ⟨by first | omega | exact Nat.le_refl _⟩, ⟨by (with_reducible repeat (first | refine blk_drewN ?_ _ | refine blk_drew ?_ | refine blk_alloc ?_ _)); exact BK106.out⟩, ⟨by repeat (first | (with_reducible first | exact HB.out | apply below_alloc | apply pw_below_drewN | apply below_drew1 | refine below_set ?_ GE106.out) | exact HB.out)⟩⟩
  ·rw [if_neg c4] at H
   have c4b0 : ((l0_0.length : Int) == (l0_1.length : Int)) = false := beq_eq_false_iff_ne.mpr c4
   have c4b1 : ((l0_0.length : Int) != (l0_1.length : Int)) = true := bne_iff_ne.mpr c4
   have c4b2 : (l0_0.length == l0_1.length) = false := by first | simpa using c4 | (simp at c4 ⊢; omega)
   (first | rw [c4b0] | (simp only [i64_w, i32_w]; rw [c4b0]) | skip)
   have H' := Aside0.mk H
   clear H
   have hcz8_0 : w3.cell? ⟨gb106, 0, none⟩ = some (.slice A0_0 l0_0.length c0_0) := (blk_cell BK106.out 0).trans rfl
   have hcz8_1 : w3.cell? ⟨gb106, 1, none⟩ = some (.slice A0_1 l0_1.length c0_1) := (blk_cell BK106.out 1).trans rfl
   have hfz8_0 := blk_frozen BK106.out 0
   have hfz8_1 := blk_frozen BK106.out 1
   go_wp2
   go_meet
   case rel => exact ⟨_, (true), (by first | rfl | (simp; done) | (simp [*]; done)), H', ⟨by first | omega | exact Nat.le_refl _⟩, ⟨by (with_reducible repeat (first | refine blk_drewN ?_ _ | refine blk_drew ?_ | refine blk_alloc ?_ _)); exact BK106.out⟩, ⟨by repeat (first | (with_reducible first | exact HB.out | apply below_alloc | apply pw_below_drewN | apply below_drew1 | refine below_set ?_ GE106.out) | exact HB.out)⟩⟩
 case rest =>
  clear HC2
  try clear p2
  try clear c4
  try clear c4b0
  try clear c4b1
  try clear c4b2
  try clear c5
  try clear c5b0
  try clear c5b1
  try clear c8
  try clear hcz6_0
  try clear hcz6_1
  try clear hcz7_0
  try clear hcz7_1
  try clear hcz8_0
  try clear hcz8_1
  try clear hfz6_0
  try clear hfz6_1
  try clear hfz7_0
  try clear hfz7_1
  try clear hfz8_0
  try clear hfz8_1
  obtain ⟨kq, x29_1, rfl, HA, HJ1, BK106, HB⟩ := hcut
  cases kq with
  | zero => exact absurd HA.out (by simp [bins_Right.j0])
  | succ kj1 =>
   have H := HA.out
   clear HA
   simp only [bins_Right.j0] at H
   by_cases c9 : x29_1 = true
   ·subst c9
    have H1 : (some false) = some r := by rw [if_pos rfl] at H; exact H
    clear H
    have H := H1
    clear H1
    obtain rfl := Option.some.inj H
    go_wp2
    go_ret
    exact ⟨by first | rfl | (simp [errW_none, errW_some] <;> rfl) | (simp [*, errW_none, errW_some] <;> rfl), by repeat (first | (with_reducible first | exact HB.out | apply below_alloc | apply pw_below_drewN | apply below_drew1 | refine below_set ?_ GE106.out) | exact HB.out)⟩
   ·replace c9 := Bool.eq_false_iff.mpr c9
    subst c9
    have H1 : (bins_Right.l0 kj1 l0_0 (l0_0.length : Int) 0 l0_0 l0_1) = some r := by rw [if_neg (show ¬ (false = true) by decide)] at H; exact H
    clear H
    have H := H1
    clear H1
    have H' := Aside0.mk H
    clear H
    have hcz10_0 : wc.cell? ⟨gb106, 0, none⟩ = some (.slice A0_0 l0_0.length c0_0) := (blk_cell BK106.out 0).trans rfl
    have hcz10_1 : wc.cell? ⟨gb106, 1, none⟩ = some (.slice A0_1 l0_1.length c0_1) := (blk_cell BK106.out 1).trans rfl
    have hfz10_0 := blk_frozen BK106.out 0
    have hfz10_1 := blk_frozen BK106.out 1
    go_wp2
    go_loopg [33] kj1 (fun kq v33 w' => ∃ (x33_2 : Int), v33 = .int .i64 x33_2 ∧ Aside0 (bins_Right.l0 kq l0_0 (l0_0.length : Int) x33_2 l0_0 l0_1 = some r) ∧ Aside0 (kq ≤ kj1) ∧ Aside0 (w'.heap[gb106]? = some (.cells #[(.slice A0_0 l0_0.length c0_0), (.slice A0_1 l0_1.length c0_1)] 25 (0, 0))) ∧ Aside0 (Below w.heap.size w w'))
    case atStart => exact ⟨(0), (by first | rfl | (simp; done) | (simp [*]; done)), H', ⟨Nat.le_refl _⟩, ⟨by (with_reducible repeat (first | refine blk_drewN ?_ _ | refine blk_drew ?_ | refine blk_alloc ?_ _)); exact BK106.out⟩, ⟨by repeat (first | (with_reducible first | exact HB.out | apply below_alloc | apply pw_below_drewN | apply below_drew1 | refine below_set ?_ GE106.out) | exact HB.out)⟩⟩
    case round =>
     clear H'
     try clear p2
     try clear c4
     try clear c4b0
     try clear c4b1
     try clear c4b2
     try clear c5
     try clear c5b0
     try clear c5b1
     try clear c8
     try clear c9
     try clear hcz10_0
     try clear hcz10_1
     try clear hcz6_0
     try clear hcz6_1
     try clear hcz7_0
     try clear hcz7_1
     try clear hcz8_0
     try clear hcz8_1
     try clear hfz10_0
     try clear hfz10_1
     try clear hfz6_0
     try clear hfz6_1
     try clear hfz7_0
     try clear hfz7_1
     try clear hfz8_0
     try clear hfz8_1
     try clear p2
     obtain ⟨x33_2, rfl, HA, HK2, BK106, HB⟩ := hrel
     cases gk with
     | zero => exact absurd HA.out (by simp [bins_Right.l0])
     | succ k2 =>
      have H := HA.out
      clear HA
      simp only [bins_Right.l0] at H
      by_cases c11 : x33_2 < (l0_0.length : Int)
      ·rw [if_pos c11] at H
       have c11b0 : decide (x33_2 < (l0_0.length : Int)) = true := decide_eq_true c11
       clear c11
       by_cases c12 : 0 ≤ x33_2
       ·rw [if_pos c12] at H
        have c12b0 : decide (0 ≤ x33_2) = true := decide_eq_true c12
        clear c12
        by_cases c13 : x33_2 < (l0_0.length : Int)
        ·rw [if_pos c13] at H
         have c13b0 : decide (x33_2 < (l0_0.length : Int)) = true := decide_eq_true c13
         clear c13
         have H' := Aside0.mk H
         clear H
         have p107 : 0 ≤ (x33_2 : Int) := of_decide_eq_true (by first | (with_reducible assumption) | assumption)
         have q107 : x33_2 < (l0_0.length : Int) := of_decide_eq_true (by first | (with_reducible assumption) | assumption)
         obtain ⟨ad107, A107_0, c107_0, e107, hx107_0, hl107_0, hi107_0⟩ := at_L1 HR0_0.out x33_2 p107 q107
         cases e107
         replace hx107_0 := (HB.out.cell (World.block_lt_of_cell? w _ hx107_0)).trans hx107_0
         have HR107_0 := Aside0.mk hi107_0
         have HC107_0 := Aside0.mk hl107_0
         clear hi107_0 hl107_0
         replace p107 := eq_true p107
         replace q107 := eq_true q107
         go_wp2
         go_loopg [39] k2 (fun kq v39 w' => ∃ (x39_3 : Int), v39 = .int .i64 x39_3 ∧ Aside0 (bins_Right.l1 kq (rd_L1 l0_0 x33_2) l0_0 (l0_0.length : Int) x33_2 (rd_L1 l0_0 x33_2) ((rd_L1 l0_0 x33_2).length : Int) x39_3 l0_0 l0_1 = some r) ∧ Aside0 (kq ≤ k2) ∧ Aside0 (w'.heap[gb106]? = some (.cells #[(.slice (some ad107) l0_0.length c0_0), (.slice A0_1 l0_1.length c0_1)] 25 (0, 0))) ∧ Aside0 (Below w.heap.size w w'))
         case atStart => exact ⟨(0), (by first | rfl | (simp; done) | (simp [*]; done)), H', ⟨Nat.le_refl _⟩, ⟨by (with_reducible repeat (first | refine blk_drewN ?_ _ | refine blk_drew ?_ | refine blk_alloc ?_ _)); exact BK106.out⟩, ⟨by repeat (first | (with_reducible first | exact HB.out | apply below_alloc | apply pw_below_drewN | apply below_drew1 | refine below_set ?_ GE106.out) | exact HB.out)⟩⟩
         case round =>
          clear H'
          try clear c1
          try clear p1
          try clear q1
          try clear hx1
          try clear p2
          try clear c4
          try clear c4b0
          try clear c4b1
          try clear c4b2
          try clear c5
          try clear c5b0
          try clear c5b1
          try clear c8
          try clear c9
          try clear c10
          try clear p10
          try clear q10
          try clear hx10
          try clear c11
          try clear c11b0
          try clear c12
          try clear c12b0
          try clear c13
          try clear c13b0
          try clear hcz10_0
          try clear hcz10_1
          try clear hcz6_0
          try clear hcz6_1
          try clear hcz7_0
          try clear hcz7_1
          try clear hcz8_0
          try clear hcz8_1
          try clear hfz10_0
          try clear hfz10_1
          try clear hfz6_0
          try clear hfz6_1
          try clear hfz7_0
          try clear hfz7_1
          try clear hfz8_0
          try clear hfz8_1
          try clear hx107_0
          try clear p107
          try clear p2
          try clear q107
          obtain ⟨x39_3, rfl, HA, HK3, BK106, HB⟩ := hrel
          cases gk with
          | zero => exact absurd HA.out (by simp [bins_Right.l1])
          | succ k3 =>
           have H := HA.out
           clear HA
           simp only [bins_Right.l1] at H
           by_cases c14 : x39_3 < ((rd_L1 l0_0 x33_2).length : Int)
           ·rw [if_pos c14] at H
            have c14b0 : decide (x39_3 < ((rd_L1 l0_0 x33_2).length : Int)) = true := decide_eq_true c14
            clear c14
            by_cases c15 : 0 ≤ x39_3
            ·rw [if_pos c15] at H
             have c15b0 : decide (0 ≤ x39_3) = true := decide_eq_true c15
             clear c15
             by_cases c16 : x39_3 < ((rd_L1 l0_0 x33_2).length : Int)
             ·rw [if_pos c16] at H
              have c16b0 : decide (x39_3 < ((rd_L1 l0_0 x33_2).length : Int)) = true := decide_eq_true c16
              clear c16
              by_cases c17 : ((feq (rdOf (0 : Nat) (rd_L1 l0_0 x33_2) x39_3) (rdOf (0 : Nat) (rd_L1 l0_0 x33_2) x39_3)) = true)
              ·rw [if_pos c17] at H
               have c17b0 : (feq (rdOf (0 : Nat) (rd_L1 l0_0 x33_2) x39_3) (rdOf (0 : Nat) (rd_L1 l0_0 x33_2) x39_3)) = true := c17
               clear c17
               by_cases c18 : (feq (rdOf (0 : Nat) (rd_L1 l0_0 x33_2) x39_3) 0) = true
               ·rw [if_pos c18] at H
                have c18b0 : (feq (rdOf (0 : Nat) (rd_L1 l0_0 x33_2) x39_3) 0) = true := c18
                clear c18
                replace H := Option.bind_eq_some_iff.mp H
                obtain ⟨t109, A190, H⟩ := H
                replace H : (if t109 = true then (some false) else (if x39_3 > 0 then (if 0 ≤ (wrap64 (x39_3 - 1)) then (if (wrap64 (x39_3 - 1)) < ((rd_L1 l0_0 x33_2).length : Int) then ((order_Compare.f (rdOf (0 : Nat) (rd_L1 l0_0 x33_2) (wrap64 (x39_3 - 1))) (rdOf (0 : Nat) (rd_L1 l0_0 x33_2) x39_3)).bind fun t111 => (if t111 ≥ 0 then (some false) else (bins_Right.l1 k3 (rd_L1 l0_0 x33_2) l0_0 (l0_0.length : Int) x33_2 (rd_L1 l0_0 x33_2) ((rd_L1 l0_0 x33_2).length : Int) (wrap64 (x39_3 + 1)) l0_0 l0_1))) else (none)) else (none)) else (bins_Right.l1 k3 (rd_L1 l0_0 x33_2) l0_0 (l0_0.length : Int) x33_2 (rd_L1 l0_0 x33_2) ((rd_L1 l0_0 x33_2).length : Int) (wrap64 (x39_3 + 1)) l0_0 l0_1))) = some r := H
                have A19 := Aside0.mk A190
                clear A190
                by_cases c20 : t109 = true
                ·subst c20
                 have H1 : (some false) = some r := by rw [if_pos rfl] at H; exact H
                 clear H
                 have H := H1
                 clear H1
                 obtain rfl := Option.some.inj H
                 have p108 : 0 ≤ (x39_3 : Int) := of_decide_eq_true (by first | (with_reducible assumption) | assumption)
                 have q108 : x39_3 < ((rd_L1 l0_0 x33_2).length : Int) := of_decide_eq_true (by first | (with_reducible assumption) | assumption)
                 obtain ⟨ad108, e108, hx108_0⟩ := Kd.at_f64 HR107_0.out x39_3 p108 q108
                 cases e108
                 replace hx108_0 := (HB.out.cell (World.block_lt_of_cell? w _ hx108_0)).trans hx108_0
                 replace p108 := eq_true p108
                 replace q108 := eq_true q108
                 go_wp2_with (first | (go_at_call 22; (with_reducible refine (math_Signbit.calls (rdOf (0 : Nat) (rd_L1 l0_0 x33_2) x39_3) true _ A19.out).mono ?_); rintro e w' ⟨rfl, ⟨nd, rfl⟩⟩))
                 go_ret
                 exact ⟨by first | rfl | (simp [errW_none, errW_some] <;> rfl) | (simp [*, errW_none, errW_some] <;> rfl), by repeat (first | (with_reducible first | exact HB.out | apply below_alloc | apply pw_below_drewN | apply below_drew1 | refine below_set ?_ GE106.out) | exact HB.out)⟩
                ·replace c20 := Bool.eq_false_iff.mpr c20
                 subst c20
                 have H1 : (if x39_3 > 0 then (if 0 ≤ (wrap64 (x39_3 - 1)) then (if (wrap64 (x39_3 - 1)) < ((rd_L1 l0_0 x33_2).length : Int) then ((order_Compare.f (rdOf (0 : Nat) (rd_L1 l0_0 x33_2) (wrap64 (x39_3 - 1))) (rdOf (0 : Nat) (rd_L1 l0_0 x33_2) x39_3)).bind fun t111 => (if t111 ≥ 0 then (some false) else (bins_Right.l1 k3 (rd_L1 l0_0 x33_2) l0_0 (l0_0.length : Int) x33_2 (rd_L1 l0_0 x33_2) ((rd_L1 l0_0 x33_2).length : Int) (wrap64 (x39_3 + 1)) l0_0 l0_1))) else (none)) else (none)) else (bins_Right.l1 k3 (rd_L1 l0_0 x33_2) l0_0 (l0_0.length : Int) x33_2 (rd_L1 l0_0 x33_2) ((rd_L1 l0_0 x33_2).length : Int) (wrap64 (x39_3 + 1)) l0_0 l0_1)) = some r := by rw [if_neg (show ¬ (false = true) by decide)] at H; exact H
                 clear H
                 have H := H1
                 clear H1
                 by_cases c21 : x39_3 > 0
                 ·rw [if_pos c21] at H
                  have c21b0 : decide (0 < x39_3) = true := decide_eq_true c21
                  clear c21
                  obtain ⟨ji22, hji22⟩ : ∃ j_ : Int, (wrap64 (x39_3 - 1)) = j_ := ⟨_, rfl⟩
                  replace H : (if 0 ≤ (ji22) then (if (ji22) < ((rd_L1 l0_0 x33_2).length : Int) then ((order_Compare.f (rdOf (0 : Nat) (rd_L1 l0_0 x33_2) (ji22)) (rdOf (0 : Nat) (rd_L1 l0_0 x33_2) x39_3)).bind fun t111 => (if t111 ≥ 0 then (some false) else (bins_Right.l1 k3 (rd_L1 l0_0 x33_2) l0_0 (l0_0.length : Int) x33_2 (rd_L1 l0_0 x33_2) ((rd_L1 l0_0 x33_2).length : Int) (wrap64 (x39_3 + 1)) l0_0 l0_1))) else (none)) else (none)) = some r := by first | (rw [hji22] at H; exact H) | (simp only [hji22] at H ⊢; exact H)
                  (try rw [hji22] at A19)
                  have hji22w : (IntKind.i64.wrap (x39_3 - 1)) = ji22 := (i64_w _).trans hji22
                  by_cases c23 : 0 ≤ (ji22)
                  ·rw [if_pos c23] at H
                   have c23b0 : decide (0 ≤ (ji22)) = true := decide_eq_true c23
                   clear c23
                   by_cases c24 : (ji22) < ((rd_L1 l0_0 x33_2).length : Int)
                   ·rw [if_pos c24] at H
                    have c24b0 : decide ((ji22) < ((rd_L1 l0_0 x33_2).length : Int)) = true := decide_eq_true c24
                    clear c24
                    replace H := Option.bind_eq_some_iff.mp H
                    obtain ⟨t111, A250, H⟩ := H
                    replace H : (if t111 ≥ 0 then (some false) else (bins_Right.l1 k3 (rd_L1 l0_0 x33_2) l0_0 (l0_0.length : Int) x33_2 (rd_L1 l0_0 x33_2) ((rd_L1 l0_0 x33_2).length : Int) (wrap64 (x39_3 + 1)) l0_0 l0_1)) = some r := H
                    have A25 := Aside0.mk A250
                    clear A250
                    by_cases c26 : t111 ≥ 0
                    ·rw [if_pos c26] at H
                     have c26b0 : decide (0 ≤ t111) = true := decide_eq_true c26
                     clear c26
                     obtain rfl := Option.some.inj H
                     have p108 : 0 ≤ (x39_3 : Int) := of_decide_eq_true (by first | (with_reducible assumption) | assumption)
                     have q108 : x39_3 < ((rd_L1 l0_0 x33_2).length : Int) := of_decide_eq_true (by first | (with_reducible assumption) | assumption)
                     obtain ⟨ad108, e108, hx108_0⟩ := Kd.at_f64 HR107_0.out x39_3 p108 q108
                     cases e108
                     replace hx108_0 := (HB.out.cell (World.block_lt_of_cell? w _ hx108_0)).trans hx108_0
                     replace p108 := eq_true p108
                     replace q108 := eq_true q108
                     go_wp2_with (first | (go_at_call 22; (with_reducible refine (math_Signbit.calls (rdOf (0 : Nat) (rd_L1 l0_0 x33_2) x39_3) false _ A19.out).mono ?_); rintro e w' ⟨rfl, ⟨nd, rfl⟩⟩; have p110 : 0 ≤ ((ji22) : Int) := of_decide_eq_true (by first | (with_reducible assumption) | assumption); have q110 : (ji22) < ((rd_L1 l0_0 x33_2).length : Int) := of_decide_eq_true (by first | (with_reducible assumption) | assumption); obtain ⟨ad110, e110, hx110_0⟩ := Kd.at_f64 HR107_0.out (ji22) p110 q110; obtain rfl : ad108 = ad110 := (by injection e110); replace hx110_0 := (HB.out.cell (World.block_lt_of_cell? w _ hx110_0)).trans hx110_0; replace p110 := eq_true p110; replace q110 := eq_true q110) | (go_at_call 23; (with_reducible refine (order_Compare.calls (rdOf (0 : Nat) (rd_L1 l0_0 x33_2) (ji22)) (rdOf (0 : Nat) (rd_L1 l0_0 x33_2) x39_3) t111 _ A25.out).mono ?_); rintro e w' ⟨rfl, ⟨nd, rfl⟩⟩))
                     go_ret
                     exact ⟨by first | rfl | (simp [errW_none, errW_some] <;> rfl) | (simp only [← hji22]; first | rfl | (simp [errW_none, errW_some] <;> rfl)) | (simp [*, errW_none, errW_some] <;> rfl), by repeat (first | (with_reducible first | exact HB.out | apply below_alloc | apply pw_below_drewN | apply below_drew1 | refine below_set ?_ GE106.out) | exact HB.out)⟩
                    ·rw [if_neg c26] at H
                     have c26b0 : decide (0 ≤ t111) = false := decide_eq_false c26
                     clear c26
                     have H' := Aside0.mk H
                     clear H
                     have p108 : 0 ≤ (x39_3 : Int) := of_decide_eq_true (by first | (with_reducible assumption) | assumption)
                     have q108 : x39_3 < ((rd_L1 l0_0 x33_2).length : Int) := of_decide_eq_true (by first | (with_reducible assumption) | assumption)
                     obtain ⟨ad108, e108, hx108_0⟩ := Kd.at_f64 HR107_0.out x39_3 p108 q108
                     cases e108
                     replace hx108_0 := (HB.out.cell (World.block_lt_of_cell? w _ hx108_0)).trans hx108_0
                     replace p108 := eq_true p108
                     replace q108 := eq_true q108
                     go_wp2_with (first | (go_at_call 22; (with_reducible refine (math_Signbit.calls (rdOf (0 : Nat) (rd_L1 l0_0 x33_2) x39_3) false _ A19.out).mono ?_); rintro e w' ⟨rfl, ⟨nd, rfl⟩⟩; have p110 : 0 ≤ ((ji22) : Int) := of_decide_eq_true (by first | (with_reducible assumption) | assumption); have q110 : (ji22) < ((rd_L1 l0_0 x33_2).length : Int) := of_decide_eq_true (by first | (with_reducible assumption) | assumption); obtain ⟨ad110, e110, hx110_0⟩ := Kd.at_f64 HR107_0.out (ji22) p110 q110; obtain rfl : ad108 = ad110 := (by injection e110); replace hx110_0 := (HB.out.cell (World.block_lt_of_cell? w _ hx110_0)).trans hx110_0; replace p110 := eq_true p110; replace q110 := eq_true q110) | (go_at_call 23; (with_reducible refine (order_Compare.calls (rdOf (0 : Nat) (rd_L1 l0_0 x33_2) (ji22)) (rdOf (0 : Nat) (rd_L1 l0_0 x33_2) x39_3) t111 _ A25.out).mono ?_); rintro e w' ⟨rfl, ⟨nd, rfl⟩⟩))
                     go_roundg k3
                     case measure => have := HJ1.out; have := HK2.out; have := HK3.out; omega
                     case rel => exact ⟨(wrap64 (x39_3 + 1)), (by first | rfl | (simp; done) | (simp [*]; done)), H', ⟨by have := HJ1.out; have := HK2.out; have := HK3.out; omega⟩, ⟨by (with_reducible repeat (first | refine blk_drewN ?_ _ | refine blk_drew ?_ | refine blk_alloc ?_ _)); exact BK106.out⟩, ⟨by repeat (first | (with_reducible first | exact HB.out | apply below_alloc | apply pw_below_drewN | apply below_drew1 | refine below_set ?_ GE106.out) | exact HB.out)⟩⟩
                   ·rw [if_neg c24] at H
                    exact absurd H (by simp)
                  ·rw [if_neg c23] at H
                   exact absurd H (by simp)
                 ·rw [if_neg c21] at H
                  have c21b0 : decide (0 < x39_3) = false := decide_eq_false c21
                  clear c21
                  have H' := Aside0.mk H
                  clear H
                  have p108 : 0 ≤ (x39_3 : Int) := of_decide_eq_true (by first | (with_reducible assumption) | assumption)
                  have q108 : x39_3 < ((rd_L1 l0_0 x33_2).length : Int) := of_decide_eq_true (by first | (with_reducible assumption) | assumption)
                  obtain ⟨ad108, e108, hx108_0⟩ := Kd.at_f64 HR107_0.out x39_3 p108 q108
                  cases e108
                  replace hx108_0 := (HB.out.cell (World.block_lt_of_cell? w _ hx108_0)).trans hx108_0
                  replace p108 := eq_true p108
                  replace q108 := eq_true q108
                  go_wp2_with (first | (go_at_call 22; (with_reducible refine (math_Signbit.calls (rdOf (0 : Nat) (rd_L1 l0_0 x33_2) x39_3) false _ A19.out).mono ?_); rintro e w' ⟨rfl, ⟨nd, rfl⟩⟩))
                  go_roundg k3
                  case measure => have := HJ1.out; have := HK2.out; have := HK3.out; omega
                  case rel => exact ⟨(wrap64 (x39_3 + 1)), (by first | rfl | (simp; done) | (simp [*]; done)), H', ⟨by have := HJ1.out; have := HK2.out; have := HK3.out; omega⟩, ⟨by (with_reducible repeat (first | refine blk_drewN ?_ _ | refine blk_drew ?_ | refine blk_alloc ?_ _)); exact BK106.out⟩, ⟨by repeat (first | (with_reducible first | exact HB.out | apply below_alloc | apply pw_below_drewN | apply below_drew1 | refine below_set ?_ GE106.out) | exact HB.out)⟩⟩
               ·rw [if_neg c18] at H
                have c18b0 : (feq (rdOf (0 : Nat) (rd_L1 l0_0 x33_2) x39_3) 0) = false := by simpa using c18
                clear c18
                by_cases c27 : x39_3 > 0
                ·rw [if_pos c27] at H
                 have c27b0 : decide (0 < x39_3) = true := decide_eq_true c27
                 clear c27
                 obtain ⟨ji28, hji28⟩ : ∃ j_ : Int, (wrap64 (x39_3 - 1)) = j_ := ⟨_, rfl⟩
                 replace H : (if 0 ≤ (ji28) then (if (ji28) < ((rd_L1 l0_0 x33_2).length : Int) then ((order_Compare.f (rdOf (0 : Nat) (rd_L1 l0_0 x33_2) (ji28)) (rdOf (0 : Nat) (rd_L1 l0_0 x33_2) x39_3)).bind fun t113 => (if t113 ≥ 0 then (some false) else (bins_Right.l1 k3 (rd_L1 l0_0 x33_2) l0_0 (l0_0.length : Int) x33_2 (rd_L1 l0_0 x33_2) ((rd_L1 l0_0 x33_2).length : Int) (wrap64 (x39_3 + 1)) l0_0 l0_1))) else (none)) else (none)) = some r := by first | (rw [hji28] at H; exact H) | (simp only [hji28] at H ⊢; exact H)
                 have hji28w : (IntKind.i64.wrap (x39_3 - 1)) = ji28 := (i64_w _).trans hji28
                 by_cases c29 : 0 ≤ (ji28)
                 ·rw [if_pos c29] at H
                  have c29b0 : decide (0 ≤ (ji28)) = true := decide_eq_true c29
                  clear c29
                  by_cases c30 : (ji28) < ((rd_L1 l0_0 x33_2).length : Int)
                  ·rw [if_pos c30] at H
                   have c30b0 : decide ((ji28) < ((rd_L1 l0_0 x33_2).length : Int)) = true := decide_eq_true c30
                   clear c30
                   replace H := Option.bind_eq_some_iff.mp H
                   obtain ⟨t113, A310, H⟩ := H
                   replace H : (if t113 ≥ 0 then (some false) else (bins_Right.l1 k3 (rd_L1 l0_0 x33_2) l0_0 (l0_0.length : Int) x33_2 (rd_L1 l0_0 x33_2) ((rd_L1 l0_0 x33_2).length : Int) (wrap64 (x39_3 + 1)) l0_0 l0_1)) = some r := H
                   have A31 := Aside0.mk A310
                   clear A310
                   by_cases c32 : t113 ≥ 0
                   ·rw [if_pos c32] at H
                    have c32b0 : decide (0 ≤ t113) = true := decide_eq_true c32
                    clear c32
                    obtain rfl := Option.some.inj H
                    have p108 : 0 ≤ (x39_3 : Int) := of_decide_eq_true (by first | (with_reducible assumption) | assumption)
                    have q108 : x39_3 < ((rd_L1 l0_0 x33_2).length : Int) := of_decide_eq_true (by first | (with_reducible assumption) | assumption)
                    obtain ⟨ad108, e108, hx108_0⟩ := Kd.at_f64 HR107_0.out x39_3 p108 q108
                    cases e108
                    replace hx108_0 := (HB.out.cell (World.block_lt_of_cell? w _ hx108_0)).trans hx108_0
                    replace p108 := eq_true p108
                    replace q108 := eq_true q108
                    have p112 : 0 ≤ ((ji28) : Int) := of_decide_eq_true (by first | (with_reducible assumption) | assumption)
                    have q112 : (ji28) < ((rd_L1 l0_0 x33_2).length : Int) := of_decide_eq_true (by first | (with_reducible assumption) | assumption)
                    obtain ⟨ad112, e112, hx112_0⟩ := Kd.at_f64 HR107_0.out (ji28) p112 q112
                    obtain rfl : ad108 = ad112 := (by injection e112)
                    replace hx112_0 := (HB.out.cell (World.block_lt_of_cell? w _ hx112_0)).trans hx112_0
                    replace p112 := eq_true p112
                    replace q112 := eq_true q112
                    go_wp2_with (first | (go_at_call 23; (with_reducible refine (order_Compare.calls (rdOf (0 : Nat) (rd_L1 l0_0 x33_2) (ji28)) (rdOf (0 : Nat) (rd_L1 l0_0 x33_2) x39_3) t113 _ A31.out).mono ?_); rintro e w' ⟨rfl, ⟨nd, rfl⟩⟩))
                    go_ret
                    exact ⟨by first | rfl | (simp [errW_none, errW_some] <;> rfl) | (simp only [← hji28]; first | rfl | (simp [errW_none, errW_some] <;> rfl)) | (simp [*, errW_none, errW_some] <;> rfl), by repeat (first | (with_reducible first | exact HB.out | apply below_alloc | apply pw_below_drewN | apply below_drew1 | refine below_set ?_ GE106.out) | exact HB.out)⟩
                   ·rw [if_neg c32] at H
                    have c32b0 : decide (0 ≤ t113) = false := decide_eq_false c32
                    clear c32
                    have H' := Aside0.mk H
                    clear H
                    have p108 : 0 ≤ (x39_3 : Int) := of_decide_eq_true (by first | (with_reducible assumption) | assumption)
                    have q108 : x39_3 < ((rd_L1 l0_0 x33_2).length : Int) := of_decide_eq_true (by first | (with_reducible assumption) | assumption)
                    obtain ⟨ad108, e108, hx108_0⟩ := Kd.at_f64 HR107_0.out x39_3 p108 q108
                    cases e108
                    replace hx108_0 := (HB.out.cell (World.block_lt_of_cell? w _ hx108_0)).trans hx108_0
                    replace p108 := eq_true p108
                    replace q108 := eq_true q108
                    have p112 : 0 ≤ ((ji28) : Int) := of_decide_eq_true (by first | (with_reducible assumption) | assumption)
                    have q112 : (ji28) < ((rd_L1 l0_0 x33_2).length : Int) := of_decide_eq_true (by first | (with_reducible assumption) | assumption)
                    obtain ⟨ad112, e112, hx112_0⟩ := Kd.at_f64 HR107_0.out (ji28) p112 q112
                    obtain rfl : ad108 = ad112 := (by injection e112)
                    replace hx112_0 := (HB.out.cell (World.block_lt_of_cell? w _ hx112_0)).trans hx112_0
                    replace p112 := eq_true p112
                    replace q112 := eq_true q112
                    go_wp2_with (first | (go_at_call 23; (with_reducible refine (order_Compare.calls (rdOf (0 : Nat) (rd_L1 l0_0 x33_2) (ji28)) (rdOf (0 : Nat) (rd_L1 l0_0 x33_2) x39_3) t113 _ A31.out).mono ?_); rintro e w' ⟨rfl, ⟨nd, rfl⟩⟩))
                    go_roundg k3
                    case measure => have := HJ1.out; have := HK2.out; have := HK3.out; omega
                    case rel => exact ⟨(wrap64 (x39_3 + 1)), (by first | rfl | (simp; done) | (simp [*]; done)), H', ⟨by have := HJ1.out; have := HK2.out; have := HK3.out; omega⟩, ⟨by (with_reducible repeat (first | refine blk_drewN ?_ _ | refine blk_drew ?_ | refine blk_alloc ?_ _)); exact BK106.out⟩, ⟨by repeat (first | (with_reducible first | exact HB.out | apply below_alloc | apply pw_below_drewN | apply below_drew1 | refine below_set ?_ GE106.out) | exact HB.out)⟩⟩
                  ·rw [if_neg c30] at H
                   exact absurd H (by simp)
                 ·rw [if_neg c29] at H
                  exact absurd H (by simp)
                ·rw [if_neg c27] at H
                 have c27b0 : decide (0 < x39_3) = false := decide_eq_false c27
                 clear c27
                 have H' := Aside0.mk H
                 clear H
                 have p108 : 0 ≤ (x39_3 : Int) := of_decide_eq_true (by first | (with_reducible assumption) | assumption)
                 have q108 : x39_3 < ((rd_L1 l0_0 x33_2).length : Int) := of_decide_eq_true (by first | (with_reducible assumption) | assumption)
                 obtain ⟨ad108, e108, hx108_0⟩ := Kd.at_f64 HR107_0.out x39_3 p108 q108
                 cases e108
                 replace hx108_0 := (HB.out.cell (World.block_lt_of_cell? w _ hx108_0)).trans hx108_0
                 replace p108 := eq_true p108
                 replace q108 := eq_true q108
                 go_wp2
                 go_roundg k3
                 case measure => have := HJ1.out; have := HK2.out; have := HK3.out; omega
                 case rel => exact ⟨(wrap64 (x39_3 + 1)), (by first | rfl | (simp; done) | (simp [*]; done)), H', ⟨by have := HJ1.out; have := HK2.out; have := HK3.out; omega⟩, ⟨by (with_reducible repeat (first | refine blk_drewN ?_ _ | refine blk_drew ?_ | refine blk_alloc ?_ _)); exact BK106.out⟩, ⟨by repeat (first | (with_reducible first | exact HB.out | apply below_alloc | apply pw_below_drewN | apply below_drew1 | refine below_set ?_ GE106.out) | exact HB.out)⟩⟩
              ·rw [if_neg c17] at H
               have c17b0 : (feq (rdOf (0 : Nat) (rd_L1 l0_0 x33_2) x39_3) (rdOf (0 : Nat) (rd_L1 l0_0 x33_2) x39_3)) = false := by simpa using c17
               clear c17
               obtain rfl := Option.some.inj H
               have p108 : 0 ≤ (x39_3 : Int) := of_decide_eq_true (by first | (with_reducible assumption) | assumption)
               have q108 : x39_3 < ((rd_L1 l0_0 x33_2).length : Int) := of_decide_eq_true (by first | (with_reducible assumption) | assumption)
               obtain ⟨ad108, e108, hx108_0⟩ := Kd.at_f64 HR107_0.out x39_3 p108 q108
               cases e108
               replace hx108_0 := (HB.out.cell (World.block_lt_of_cell? w _ hx108_0)).trans hx108_0
               replace p108 := eq_true p108
               replace q108 := eq_true q108
               go_wp2
               go_ret
               exact ⟨by first | rfl | (simp [errW_none, errW_some] <;> rfl) | (simp [*, errW_none, errW_some] <;> rfl), by repeat (first | (with_reducible first | exact HB.out | apply below_alloc | apply pw_below_drewN | apply below_drew1 | refine below_set ?_ GE106.out) | exact HB.out)⟩
             ·rw [if_neg c16] at H
              exact absurd H (by simp)
            ·rw [if_neg c15] at H
             exact absurd H (by simp)
           ·rw [if_neg c14] at H
            have c14b0 : decide (x39_3 < ((rd_L1 l0_0 x33_2).length : Int)) = false := decide_eq_false c14
            clear c14
            have H' := Aside0.mk H
            clear H
            go_wp2
            go_roundg k3
            case measure => have := HJ1.out; have := HK2.out; have := HK3.out; omega
            case rel => exact ⟨(wrap64 (x33_2 + 1)), (by first | rfl | (simp; done) | (simp [*]; done)), H', ⟨by have := HJ1.out; have := HK2.out; have := HK3.out; omega⟩, ⟨by (with_reducible repeat (first | refine blk_drewN ?_ _ | refine blk_drew ?_ | refine blk_alloc ?_ _)); exact BK106.out⟩, ⟨by repeat (first | (with_reducible first | exact HB.out | apply below_alloc | apply pw_below_drewN | apply below_drew1 | refine below_set ?_ GE106.out) | exact HB.out)⟩⟩
        ·rw [if_neg c13] at H
         exact absurd H (by simp)
       ·rw [if_neg c12] at H
        exact absurd H (by simp)
      ·rw [if_neg c11] at H
       have c11b0 : decide (x33_2 < (l0_0.length : Int)) = false := decide_eq_false c11
       clear c11
       have H' := Aside0.mk H
       clear H
       have hcz33_0 : wr.cell? ⟨gb106, 0, none⟩ = some (.slice A0_0 l0_0.length c0_0) := (blk_cell BK106.out 0).trans rfl
       have hcz33_1 : wr.cell? ⟨gb106, 1, none⟩ = some (.slice A0_1 l0_1.length c0_1) := (blk_cell BK106.out 1).trans rfl
       have hfz33_0 := blk_frozen BK106.out 0
       have hfz33_1 := blk_frozen BK106.out 1
       go_wp2
       go_loopg [74] k2 (fun kq v74 w' => ∃ (x74_3 : Int), v74 = .int .i64 x74_3 ∧ Aside0 (bins_Right.l2 kq l0_1 (l0_1.length : Int) x74_3 = some r) ∧ Aside0 (kq ≤ k2) ∧ Aside0 (w'.heap[gb106]? = some (.cells #[(.slice A0_0 l0_0.length c0_0), (.slice A0_1 l0_1.length c0_1)] 25 (0, 0))) ∧ Aside0 (Below w.heap.size w w'))
       case atStart => exact ⟨(0), (by first | rfl | (simp; done) | (simp [*]; done)), H', ⟨Nat.le_refl _⟩, ⟨by (with_reducible repeat (first | refine blk_drewN ?_ _ | refine blk_drew ?_ | refine blk_alloc ?_ _)); exact BK106.out⟩, ⟨by repeat (first | (with_reducible first | exact HB.out | apply below_alloc | apply pw_below_drewN | apply below_drew1 | refine below_set ?_ GE106.out) | exact HB.out)⟩⟩
       case round =>
        clear H'
        try clear c1
        try clear p1
        try clear q1
        try clear hx1
        try clear c2
        try clear p2
        try clear c3
        try clear c4
        try clear c4b0
        try clear c4b1
        try clear c4b2
        try clear c5
        try clear c5b0
        try clear c5b1
        try clear p6
        try clear c8
        try clear c9
        try clear c10
        try clear p10
        try clear q10
        try clear hx10
        try clear c11
        try clear c11b0
        try clear p11
        try clear q11
        try clear hx11
        try clear c12
        try clear c12b0
        try clear c13
        try clear c13b0
        try clear c14
        try clear c14b0
        try clear c15
        try clear c15b0
        try clear c16
        try clear c16b0
        try clear c17
        try clear c17b0
        try clear c18
        try clear c18b0
        try clear c20
        try clear c21
        try clear c21b0
        try clear c23
        try clear c23b0
        try clear c24
        try clear c24b0
        try clear c26
        try clear c26b0
        try clear c27
        try clear c27b0
        try clear c29
        try clear c29b0
        try clear c30
        try clear c30b0
        try clear c32
        try clear c32b0
        try clear hcz10_0
        try clear hcz10_1
        try clear hcz33_0
        try clear hcz33_1
        try clear hcz6_0
        try clear hcz6_1
        try clear hcz7_0
        try clear hcz7_1
        try clear hcz8_0
        try clear hcz8_1
        try clear hfz10_0
        try clear hfz10_1
        try clear hfz33_0
        try clear hfz33_1
        try clear hfz6_0
        try clear hfz6_1
        try clear hfz7_0
        try clear hfz7_1
        try clear hfz8_0
        try clear hfz8_1
        try clear hx107_0
        try clear hx108_0
        try clear hx110_0
        try clear hx112_0
        try clear p1
        try clear p10
        try clear p107
        try clear p108
        try clear p110
        try clear p112
        try clear p2
        try clear q1
        try clear q10
        try clear q107
        try clear q108
        try clear q110
        try clear q112
        obtain ⟨x74_3, rfl, HA, HK3, BK106, HB⟩ := hrel
        cases gk with
        | zero => exact absurd HA.out (by simp [bins_Right.l2])
        | succ k3 =>
         have H := HA.out
         clear HA
         simp only [bins_Right.l2] at H
         by_cases c34 : x74_3 < (l0_1.length : Int)
         ·rw [if_pos c34] at H
          have c34b0 : decide (x74_3 < (l0_1.length : Int)) = true := decide_eq_true c34
          clear c34
          by_cases c35 : 0 ≤ x74_3
          ·rw [if_pos c35] at H
           have c35b0 : decide (0 ≤ x74_3) = true := decide_eq_true c35
           clear c35
           by_cases c36 : x74_3 < (l0_1.length : Int)
           ·rw [if_pos c36] at H
            have c36b0 : decide (x74_3 < (l0_1.length : Int)) = true := decide_eq_true c36
            clear c36
            have H' := Aside0.mk H
            clear H
            have p114 : 0 ≤ (x74_3 : Int) := of_decide_eq_true (by first | (with_reducible assumption) | assumption)
            have q114 : x74_3 < (l0_1.length : Int) := of_decide_eq_true (by first | (with_reducible assumption) | assumption)
            obtain ⟨ad114, A114_0, c114_0, e114, hx114_0, hl114_0, hi114_0⟩ := at_L3 HR0_1.out x74_3 p114 q114
            cases e114
            replace hx114_0 := (HB.out.cell (World.block_lt_of_cell? w _ hx114_0)).trans hx114_0
            have HR114_0 := Aside0.mk hi114_0
            have HC114_0 := Aside0.mk hl114_0
            clear hi114_0 hl114_0
            replace p114 := eq_true p114
            replace q114 := eq_true q114
            go_wp2
            go_loopg [80] k3 (fun kq v80 w' => ∃ (x80_4 : Int), v80 = .int .i64 x80_4 ∧ Aside0 (bins_Right.l3 kq (rd_L3 l0_1 x74_3) l0_1 (l0_1.length : Int) x74_3 (rd_L3 l0_1 x74_3) ((rd_L3 l0_1 x74_3).length : Int) x80_4 = some r) ∧ Aside0 (kq ≤ k3) ∧ Aside0 (w'.heap[gb106]? = some (.cells #[(.slice A0_0 l0_0.length c0_0), (.slice (some ad114) l0_1.length c0_1)] 25 (0, 0))) ∧ Aside0 (Below w.heap.size w w'))
            case atStart => exact ⟨(0), (by first | rfl | (simp; done) | (simp [*]; done)), H', ⟨Nat.le_refl _⟩, ⟨by (with_reducible repeat (first | refine blk_drewN ?_ _ | refine blk_drew ?_ | refine blk_alloc ?_ _)); exact BK106.out⟩, ⟨by repeat (first | (with_reducible first | exact HB.out | apply below_alloc | apply pw_below_drewN | apply below_drew1 | refine below_set ?_ GE106.out) | exact HB.out)⟩⟩
            case round =>
             clear H'
             try clear c1
             try clear p1
             try clear q1
             try clear hx1
             try clear c2
             try clear p2
             try clear c3
             try clear c4
             try clear c4b0
             try clear c4b1
             try clear c4b2
             try clear c5
             try clear c5b0
             try clear c5b1
             try clear p6
             try clear c8
             try clear c9
             try clear c10
             try clear p10
             try clear q10
             try clear hx10
             try clear c11
             try clear c11b0
             try clear p11
             try clear q11
             try clear hx11
             try clear c12
             try clear c12b0
             try clear c13
             try clear c13b0
             try clear c14
             try clear c14b0
             try clear c15
             try clear c15b0
             try clear c16
             try clear c16b0
             try clear c17
             try clear c17b0
             try clear c18
             try clear c18b0
             try clear c20
             try clear c21
             try clear c21b0
             try clear c23
             try clear c23b0
             try clear c24
             try clear c24b0
             try clear c26
             try clear c26b0
             try clear c27
             try clear c27b0
             try clear c29
             try clear c29b0
             try clear c30
             try clear c30b0
             try clear c32
             try clear c32b0
             try clear c34
             try clear c34b0
             try clear c35
             try clear c35b0
             try clear c36
             try clear c36b0
             try clear hcz10_0
             try clear hcz10_1
             try clear hcz33_0
             try clear hcz33_1
             try clear hcz6_0
             try clear hcz6_1
             try clear hcz7_0
             try clear hcz7_1
             try clear hcz8_0
             try clear hcz8_1
             try clear hfz10_0
             try clear hfz10_1
             try clear hfz33_0
             try clear hfz33_1
             try clear hfz6_0
             try clear hfz6_1
             try clear hfz7_0
             try clear hfz7_1
             try clear hfz8_0
             try clear hfz8_1
             try clear hx107_0
             try clear hx108_0
             try clear hx110_0
             try clear hx112_0
             try clear hx114_0
             try clear p1
             try clear p10
             try clear p107
             try clear p108
             try clear p11
             try clear p110
             try clear p112
             try clear p114
             try clear p2
             try clear p6
             try clear q1
             try clear q10
             try clear q107
             try clear q108
             try clear q11
             try clear q110
             try clear q112
             try clear q114
             obtain ⟨x80_4, rfl, HA, HK4, BK106, HB⟩ := hrel
             cases gk with
             | zero => exact absurd HA.out (by simp [bins_Right.l3])
             | succ k4 =>
              have H := HA.out
              clear HA
              simp only [bins_Right.l3] at H
              by_cases c37 : x80_4 < ((rd_L3 l0_1 x74_3).length : Int)
              ·rw [if_pos c37] at H
               have c37b0 : decide (x80_4 < ((rd_L3 l0_1 x74_3).length : Int)) = true := decide_eq_true c37
               clear c37
               by_cases c38 : 0 ≤ x80_4
               ·rw [if_pos c38] at H
                have c38b0 : decide (0 ≤ x80_4) = true := decide_eq_true c38
                clear c38
                by_cases c39 : x80_4 < ((rd_L3 l0_1 x74_3).length : Int)
                ·rw [if_pos c39] at H
                 have c39b0 : decide (x80_4 < ((rd_L3 l0_1 x74_3).length : Int)) = true := decide_eq_true c39
                 clear c39
                 by_cases c40 : (rd (rd_L3 l0_1 x74_3) x80_4) < 0
                 ·rw [if_pos c40] at H
                  have c40b0 : decide ((rd (rd_L3 l0_1 x74_3) x80_4) < 0) = true := decide_eq_true c40
                  clear c40
                  obtain rfl := Option.some.inj H
                  have p115 : 0 ≤ (x80_4 : Int) := of_decide_eq_true (by first | (with_reducible assumption) | assumption)
                  have q115 : x80_4 < ((rd_L3 l0_1 x74_3).length : Int) := of_decide_eq_true (by first | (with_reducible assumption) | assumption)
                  obtain ⟨ad115, e115, hx115_0⟩ := Kd.at_int HR114_0.out x80_4 p115 q115
                  cases e115
                  replace hx115_0 := (HB.out.cell (World.block_lt_of_cell? w _ hx115_0)).trans hx115_0
                  replace p115 := eq_true p115
                  replace q115 := eq_true q115
                  go_wp2
                  go_ret
                  exact ⟨by first | rfl | (simp [errW_none, errW_some] <;> rfl) | (simp [*, errW_none, errW_some] <;> rfl), by repeat (first | (with_reducible first | exact HB.out | apply below_alloc | apply pw_below_drewN | apply below_drew1 | refine below_set ?_ GE106.out) | exact HB.out)⟩
                 ·rw [if_neg c40] at H
                  have c40b0 : decide ((rd (rd_L3 l0_1 x74_3) x80_4) < 0) = false := decide_eq_false c40
                  clear c40
                  by_cases c41 : (rd (rd_L3 l0_1 x74_3) x80_4) ≥ 1024
                  ·rw [if_pos c41] at H
                   have c41b0 : decide (1024 ≤ (rd (rd_L3 l0_1 x74_3) x80_4)) = true := decide_eq_true c41
                   clear c41
                   obtain rfl := Option.some.inj H
                   have p115 : 0 ≤ (x80_4 : Int) := of_decide_eq_true (by first | (with_reducible assumption) | assumption)
                   have q115 : x80_4 < ((rd_L3 l0_1 x74_3).length : Int) := of_decide_eq_true (by first | (with_reducible assumption) | assumption)
                   obtain ⟨ad115, e115, hx115_0⟩ := Kd.at_int HR114_0.out x80_4 p115 q115
                   cases e115
                   replace hx115_0 := (HB.out.cell (World.block_lt_of_cell? w _ hx115_0)).trans hx115_0
                   replace p115 := eq_true p115
                   replace q115 := eq_true q115
                   go_wp2
                   go_ret
                   exact ⟨by first | rfl | (simp [errW_none, errW_some] <;> rfl) | (simp [*, errW_none, errW_some] <;> rfl), by repeat (first | (with_reducible first | exact HB.out | apply below_alloc | apply pw_below_drewN | apply below_drew1 | refine below_set ?_ GE106.out) | exact HB.out)⟩
                  ·rw [if_neg c41] at H
                   have c41b0 : decide (1024 ≤ (rd (rd_L3 l0_1 x74_3) x80_4)) = false := decide_eq_false c41
                   clear c41
                   by_cases c42 : x80_4 > 0
                   ·rw [if_pos c42] at H
                    have c42b0 : decide (0 < x80_4) = true := decide_eq_true c42
                    clear c42
                    obtain ⟨ji43, hji43⟩ : ∃ j_ : Int, (wrap64 (x80_4 - 1)) = j_ := ⟨_, rfl⟩
                    replace H : (if 0 ≤ (ji43) then (if (ji43) < ((rd_L3 l0_1 x74_3).length : Int) then (if (rd (rd_L3 l0_1 x74_3) x80_4) ≤ (rd (rd_L3 l0_1 x74_3) (ji43)) then (some false) else (bins_Right.l3 k4 (rd_L3 l0_1 x74_3) l0_1 (l0_1.length : Int) x74_3 (rd_L3 l0_1 x74_3) ((rd_L3 l0_1 x74_3).length : Int) (wrap64 (x80_4 + 1)))) else (none)) else (none)) = some r := by first | (rw [hji43] at H; exact H) | (simp only [hji43] at H ⊢; exact H)
                    have hji43w : (IntKind.i64.wrap (x80_4 - 1)) = ji43 := (i64_w _).trans hji43
                    by_cases c44 : 0 ≤ (ji43)
                    ·rw [if_pos c44] at H
                     have c44b0 : decide (0 ≤ (ji43)) = true := decide_eq_true c44
                     clear c44
                     by_cases c45 : (ji43) < ((rd_L3 l0_1 x74_3).length : Int)
                     ·rw [if_pos c45] at H
                      have c45b0 : decide ((ji43) < ((rd_L3 l0_1 x74_3).length : Int)) = true := decide_eq_true c45
                      clear c45
                      by_cases c46 : (rd (rd_L3 l0_1 x74_3) x80_4) ≤ (rd (rd_L3 l0_1 x74_3) (ji43))
                      ·rw [if_pos c46] at H
                       have c46b0 : decide ((rd (rd_L3 l0_1 x74_3) x80_4) ≤ (rd (rd_L3 l0_1 x74_3) (ji43))) = true := decide_eq_true c46
                       clear c46
                       obtain rfl := Option.some.inj H
                       have p115 : 0 ≤ (x80_4 : Int) := of_decide_eq_true (by first | (with_reducible assumption) | assumption)
                       have q115 : x80_4 < ((rd_L3 l0_1 x74_3).length : Int) := of_decide_eq_true (by first | (with_reducible assumption) | assumption)
                       obtain ⟨ad115, e115, hx115_0⟩ := Kd.at_int HR114_0.out x80_4 p115 q115
                       cases e115
                       replace hx115_0 := (HB.out.cell (World.block_lt_of_cell? w _ hx115_0)).trans hx115_0
                       replace p115 := eq_true p115
                       replace q115 := eq_true q115
                       have p116 : 0 ≤ ((ji43) : Int) := of_decide_eq_true (by first | (with_reducible assumption) | assumption)
                       have q116 : (ji43) < ((rd_L3 l0_1 x74_3).length : Int) := of_decide_eq_true (by first | (with_reducible assumption) | assumption)
                       obtain ⟨ad116, e116, hx116_0⟩ := Kd.at_int HR114_0.out (ji43) p116 q116
                       obtain rfl : ad115 = ad116 := (by injection e116)
                       replace hx116_0 := (HB.out.cell (World.block_lt_of_cell? w _ hx116_0)).trans hx116_0
                       replace p116 := eq_true p116
                       replace q116 := eq_true q116
                       go_wp2
                       go_ret
                       exact ⟨by first | rfl | (simp [errW_none, errW_some] <;> rfl) | (simp only [← hji43]; first | rfl | (simp [errW_none, errW_some] <;> rfl)) | (simp [*, errW_none, errW_some] <;> rfl), by repeat (first | (with_reducible first | exact HB.out | apply below_alloc | apply pw_below_drewN | apply below_drew1 | refine below_set ?_ GE106.out) | exact HB.out)⟩
                      ·rw [if_neg c46] at H
                       have c46b0 : decide ((rd (rd_L3 l0_1 x74_3) x80_4) ≤ (rd (rd_L3 l0_1 x74_3) (ji43))) = false := decide_eq_false c46
                       clear c46
                       have H' := Aside0.mk H
                       clear H
                       have p115 : 0 ≤ (x80_4 : Int) := of_decide_eq_true (by first | (with_reducible assumption) | assumption)
                       have q115 : x80_4 < ((rd_L3 l0_1 x74_3).length : Int) := of_decide_eq_true (by first | (with_reducible assumption) | assumption)
                       obtain ⟨ad115, e115, hx115_0⟩ := Kd.at_int HR114_0.out x80_4 p115 q115
                       cases e115
                       replace hx115_0 := (HB.out.cell (World.block_lt_of_cell? w _ hx115_0)).trans hx115_0
                       replace p115 := eq_true p115
                       replace q115 := eq_true q115
                       have p116 : 0 ≤ ((ji43) : Int) := of_decide_eq_true (by first | (with_reducible assumption) | assumption)
                       have q116 : (ji43) < ((rd_L3 l0_1 x74_3).length : Int) := of_decide_eq_true (by first | (with_reducible assumption) | assumption)
                       obtain ⟨ad116, e116, hx116_0⟩ := Kd.at_int HR114_0.out (ji43) p116 q116
                       obtain rfl : ad115 = ad116 := (by injection e116)
                       replace hx116_0 := (HB.out.cell (World.block_lt_of_cell? w _ hx116_0)).trans hx116_0
                       replace p116 := eq_true p116
                       replace q116 := eq_true q116
                       go_wp2
                       go_roundg k4
                       case measure => have := HJ1.out; have := HK2.out; have := HK3.out; have := HK4.out; omega
                       case rel => exact ⟨(wrap64 (x80_4 + 1)), (by first | rfl | (simp; done) | (simp [*]; done)), H', ⟨by have := HJ1.out; have := HK2.out; have := HK3.out; have := HK4.out; omega⟩, ⟨by (with_reducible repeat (first | refine blk_drewN ?_ _ | refine blk_drew ?_ | refine blk_alloc ?_ _)); exact BK106.out⟩, ⟨by repeat (first | (with_reducible first | exact HB.out | apply below_alloc | apply pw_below_drewN | apply below_drew1 | refine below_set ?_ GE106.out) | exact HB.out)⟩⟩
                     ·rw [if_neg c45] at H
                      exact absurd H (by simp)
                    ·rw [if_neg c44] at H
                     exact absurd H (by simp)
                   ·rw [if_neg c42] at H
                    have c42b0 : decide (0 < x80_4) = false := decide_eq_false c42
                    clear c42
                    have H' := Aside0.mk H
                    clear H
                    have p115 : 0 ≤ (x80_4 : Int) := of_decide_eq_true (by first | (with_reducible assumption) | assumption)
                    have q115 : x80_4 < ((rd_L3 l0_1 x74_3).length : Int) := of_decide_eq_true (by first | (with_reducible assumption) | assumption)
                    obtain ⟨ad115, e115, hx115_0⟩ := Kd.at_int HR114_0.out x80_4 p115 q115
                    cases e115
                    replace hx115_0 := (HB.out.cell (World.block_lt_of_cell? w _ hx115_0)).trans hx115_0
                    replace p115 := eq_true p115
                    replace q115 := eq_true q115
                    go_wp2
                    go_roundg k4
                    case measure => have := HJ1.out; have := HK2.out; have := HK3.out; have := HK4.out; omega
                    case rel => exact ⟨(wrap64 (x80_4 + 1)), (by first | rfl | (simp; done) | (simp [*]; done)), H', ⟨by have := HJ1.out; have := HK2.out; have := HK3.out; have := HK4.out; omega⟩, ⟨by (with_reducible repeat (first | refine blk_drewN ?_ _ | refine blk_drew ?_ | refine blk_alloc ?_ _)); exact BK106.out⟩, ⟨by repeat (first | (with_reducible first | exact HB.out | apply below_alloc | apply pw_below_drewN | apply below_drew1 | refine below_set ?_ GE106.out) | exact HB.out)⟩⟩
                ·rw [if_neg c39] at H
                 exact absurd H (by simp)
               ·rw [if_neg c38] at H
                exact absurd H (by simp)
              ·rw [if_neg c37] at H
               have c37b0 : decide (x80_4 < ((rd_L3 l0_1 x74_3).length : Int)) = false := decide_eq_false c37
               clear c37
               have H' := Aside0.mk H
               clear H
               go_wp2
               go_roundg k4
               case measure => have := HJ1.out; have := HK2.out; have := HK3.out; have := HK4.out; omega
               case rel => exact ⟨(wrap64 (x74_3 + 1)), (by first | rfl | (simp; done) | (simp [*]; done)), H', ⟨by have := HJ1.out; have := HK2.out; have := HK3.out; have := HK4.out; omega⟩, ⟨by (with_reducible repeat (first | refine blk_drewN ?_ _ | refine blk_drew ?_ | refine blk_alloc ?_ _)); exact BK106.out⟩, ⟨by repeat (first | (with_reducible first | exact HB.out | apply below_alloc | apply pw_below_drewN | apply below_drew1 | refine below_set ?_ GE106.out) | exact HB.out)⟩⟩
           ·rw [if_neg c36] at H
            exact absurd H (by simp)
          ·rw [if_neg c35] at H
           exact absurd H (by simp)
         ·rw [if_neg c34] at H
          have c34b0 : decide (x74_3 < (l0_1.length : Int)) = false := decide_eq_false c34
          clear c34
          obtain rfl := Option.some.inj H
          go_wp2
          go_ret
          exact ⟨by first | rfl | (simp [errW_none, errW_some] <;> rfl) | (simp [*, errW_none, errW_some] <;> rfl), by repeat (first | (with_reducible first | exact HB.out | apply below_alloc | apply pw_below_drewN | apply below_drew1 | refine below_set ?_ GE106.out) | exact HB.out)⟩
end Go.Proofs.Ytmkmooifgcdocaa.FAll
