-- written by fprint.sh, a program of ours over the kit's print: not by hand
import Derived.Test.YtkemfbocojoagaaDoorFAllx0
import Derived.Test.YtkemfbocojoagaaDoorFAllx2
import Derived.Test.YtkemfbocojoagaaDoorFAllx4
namespace Go.Proofs.YtkemfbocojoagaaDoor.FAll
open Go.RowKit Go.Proofs.YtkemfbocojoagaaDoorW.PrintWords Go.Proofs.YtkemfbocojoagaaDoorW.PrintLast Go.Proofs.YtkemfbocojoagaaDoorW.PrintMore
attribute [local go_sem] feq_walk fne_walk flt_walk fle_walk fgt_walk fge_walk fint_walk fstore_walk run_f64bits max2_int min2_int max_two min_two max_three min_three max_four min_four   -- for this text's walks alone
set_option linter.unusedVariables false
set_option linter.unusedSimpArgs false
/-! ### thicketref08_tree: function 11 -/
mutual
def thicketref08_tree.j0 : Nat → Int → Bool → ByteArray → List ByteArray → Int → List Int → List (S36) → Int → List (S66) → Option (Int × Int × Int × Bool)
 | 0, _, _, _, _, _, _, _, _, _ => none
 | k + 1, x1, x25, x188000, x188001, x188002, x188003, x188004, x191000, x191001 => if x25 = true then ((thicketref08_broken.f 11 x1 (-1)).bind fun bt191 => (some (bt191.1, bt191.2.1, bt191.2.2.1, bt191.2.2.2))) else (if (x191001.length : Int) < 1 then (thicketref08_tree.j1 k x1 true x188000 x188001 x188002 x188003 x188004 x191000 x191001) else (thicketref08_tree.j1 k x1 (decide ((x191001.length : Int) > 8191)) x188000 x188001 x188002 x188003 x188004 x191000 x191001))
def thicketref08_tree.j1 : Nat → Int → Bool → ByteArray → List ByteArray → Int → List Int → List (S36) → Int → List (S66) → Option (Int × Int × Int × Bool)
 | 0, _, _, _, _, _, _, _, _, _ => none
 | k + 1, x1, x39, x188000, x188001, x188002, x188003, x188004, x191000, x191001 => if x39 = true then ((thicketref08_broken.f 12 x1 (-1)).bind fun bt195 => (some (bt195.1, bt195.2.1, bt195.2.2.1, bt195.2.2.2))) else (thicketref08_tree.l0 k x1 0 x188000 x188001 x188002 x188003 x188004 x191000 x191001)
def thicketref08_tree.l0 : Nat → Int → Int → ByteArray → List ByteArray → Int → List Int → List (S36) → Int → List (S66) → Option (Int × Int × Int × Bool)
 | 0, _, _, _, _, _, _, _, _, _ => none
 | k + 1, x1, x7, x188000, x188001, x188002, x188003, x188004, x191000, x191001 => if x7 < (x191001.length : Int) then (if 0 ≤ x7 then ((thicketref08_node.f k ((rd_T66 x191001 x7).f0) ((rd_T66 x191001 x7).f1) ((rd_T66 x191001 x7).f2) ((rd_T66 x191001 x7).f3) ((rd_T66 x191001 x7).f4) ((rd_T66 x191001 x7).f5) ((rd_T66 x191001 x7).f6) ((rd_T66 x191001 x7).f7) (x188001.length : Int) (x191001.length : Int)).bind fun t200 => (if t200 = 0 then (thicketref08_tree.l0 k x1 (wrap64 (x7 + 1)) x188000 x188001 x188002 x188003 x188004 x191000 x191001) else ((thicketref08_broken.f t200 x1 x7).bind fun bt201 => (some (bt201.1, bt201.2.1, bt201.2.2.1, bt201.2.2.2))))) else (none)) else ((thicketref07_Shape.f k x191000 x191001).bind fun bt205 => (if bt205.1 = 0 then (some (0, 0, 0, false)) else ((thicketref08_broken.f 20 x1 bt205.2).bind fun bt207 => (some (bt207.1, bt207.2.1, bt207.2.2.1, bt207.2.2.2)))))
end
def thicketref08_tree.f (k : Nat) (a0_0 : ByteArray) (l0_1 : List ByteArray) (a0_2 : Int) (l0_3 : List Int) (l0_4 : List (S36)) (a1 : Int) : Option (Int × Int × Int × Bool) := if 0 ≤ a1 then (if a1 < (l0_4.length : Int) then (if ((rd_T36 l0_4 a1).f0) < 0 then (thicketref08_tree.j0 k a1 true a0_0 l0_1 a0_2 l0_3 l0_4 ((rd_T36 l0_4 a1).f0) ((rd_T36 l0_4 a1).f1)) else (thicketref08_tree.j0 k a1 (decide (((rd_T36 l0_4 a1).f0) ≥ a0_2)) a0_0 l0_1 a0_2 l0_3 l0_4 ((rd_T36 l0_4 a1).f0) ((rd_T36 l0_4 a1).f1))) else (none)) else (none)
theorem thicketref08_tree.mono_l : ∀ k, (∀ y0 y1 y2 y3 y4 y5 y6 y7 y8, LeO (thicketref08_tree.j0 k y0 y1 y2 y3 y4 y5 y6 y7 y8) (thicketref08_tree.j0 (k + 1) y0 y1 y2 y3 y4 y5 y6 y7 y8)) ∧ (∀ y0 y1 y2 y3 y4 y5 y6 y7 y8, LeO (thicketref08_tree.j1 k y0 y1 y2 y3 y4 y5 y6 y7 y8) (thicketref08_tree.j1 (k + 1) y0 y1 y2 y3 y4 y5 y6 y7 y8)) ∧ (∀ y0 y1 y2 y3 y4 y5 y6 y7 y8, LeO (thicketref08_tree.l0 k y0 y1 y2 y3 y4 y5 y6 y7 y8) (thicketref08_tree.l0 (k + 1) y0 y1 y2 y3 y4 y5 y6 y7 y8))
 | 0 => ⟨fun _ _ _ _ _ _ _ _ _ r h => by simp [thicketref08_tree.j0] at h, fun _ _ _ _ _ _ _ _ _ r h => by simp [thicketref08_tree.j1] at h, fun _ _ _ _ _ _ _ _ _ r h => by simp [thicketref08_tree.l0] at h⟩
 | k + 1 => by
  obtain ⟨ih0, ih1, ih2⟩ := thicketref08_tree.mono_l k
  refine ⟨?_, ?_, ?_⟩
  ·intro y0 y1 y2 y3 y4 y5 y6 y7 y8
   unfold thicketref08_tree.j0
   repeat' first
   | (with_reducible exact ih0 _ _ _ _ _ _ _ _ _)
   | (with_reducible exact ih1 _ _ _ _ _ _ _ _ _)
   | (with_reducible exact ih2 _ _ _ _ _ _ _ _ _)
   | (with_reducible exact thicketref07_Shape.mono _ _ _)
   | (with_reducible exact thicketref08_node.mono _ _ _ _ _ _ _ _ _ _ _)
   | (with_reducible exact LeO.refl _)
   | (with_reducible exact LeO.none _)
   | (with_reducible refine LeO.ite ?_ ?_)
   | (with_reducible refine LeO.bind ?_ (fun _ => ?_))
   | exact ih0 _ _ _ _ _ _ _ _ _
   | exact ih1 _ _ _ _ _ _ _ _ _
   | exact ih2 _ _ _ _ _ _ _ _ _
   | exact thicketref07_Shape.mono _ _ _
   | exact thicketref08_node.mono _ _ _ _ _ _ _ _ _ _ _
   | exact LeO.none _
   | refine LeO.ite ?_ ?_
   | refine LeO.bind ?_ (fun _ => ?_)
  ·intro y0 y1 y2 y3 y4 y5 y6 y7 y8
   unfold thicketref08_tree.j1
   repeat' first
   | (with_reducible exact ih0 _ _ _ _ _ _ _ _ _)
   | (with_reducible exact ih1 _ _ _ _ _ _ _ _ _)
   | (with_reducible exact ih2 _ _ _ _ _ _ _ _ _)
   | (with_reducible exact thicketref07_Shape.mono _ _ _)
   | (with_reducible exact thicketref08_node.mono _ _ _ _ _ _ _ _ _ _ _)
   | (with_reducible exact LeO.refl _)
   | (with_reducible exact LeO.none _)
   | (with_reducible refine LeO.ite ?_ ?_)
   | (with_reducible refine LeO.bind ?_ (fun _ => ?_))
   | exact ih0 _ _ _ _ _ _ _ _ _
   | exact ih1 _ _ _ _ _ _ _ _ _
   | exact ih2 _ _ _ _ _ _ _ _ _
   | exact thicketref07_Shape.mono _ _ _
   | exact thicketref08_node.mono _ _ _ _ _ _ _ _ _ _ _
   | exact LeO.none _
   | refine LeO.ite ?_ ?_
   | refine LeO.bind ?_ (fun _ => ?_)
  ·intro y0 y1 y2 y3 y4 y5 y6 y7 y8
   unfold thicketref08_tree.l0
   repeat' first
   | (with_reducible exact ih0 _ _ _ _ _ _ _ _ _)
   | (with_reducible exact ih1 _ _ _ _ _ _ _ _ _)
   | (with_reducible exact ih2 _ _ _ _ _ _ _ _ _)
   | (with_reducible exact thicketref07_Shape.mono _ _ _)
   | (with_reducible exact thicketref08_node.mono _ _ _ _ _ _ _ _ _ _ _)
   | (with_reducible exact LeO.refl _)
   | (with_reducible exact LeO.none _)
   | (with_reducible refine LeO.ite ?_ ?_)
   | (with_reducible refine LeO.bind ?_ (fun _ => ?_))
   | exact ih0 _ _ _ _ _ _ _ _ _
   | exact ih1 _ _ _ _ _ _ _ _ _
   | exact ih2 _ _ _ _ _ _ _ _ _
   | exact thicketref07_Shape.mono _ _ _
   | exact thicketref08_node.mono _ _ _ _ _ _ _ _ _ _ _
   | exact LeO.none _
   | refine LeO.ite ?_ ?_
   | refine LeO.bind ?_ (fun _ => ?_)
theorem thicketref08_tree.mono : ∀ a0 a1 a2 a3 a4 a5 k, LeO (thicketref08_tree.f k a0 a1 a2 a3 a4 a5) (thicketref08_tree.f (k + 1) a0 a1 a2 a3 a4 a5) := by
 intro a0 a1 a2 a3 a4 a5 k
 obtain ⟨ih0, ih1, ih2⟩ := thicketref08_tree.mono_l k
 unfold thicketref08_tree.f
 repeat' first
   | (with_reducible exact ih0 _ _ _ _ _ _ _ _ _)
   | (with_reducible exact ih1 _ _ _ _ _ _ _ _ _)
   | (with_reducible exact ih2 _ _ _ _ _ _ _ _ _)
   | (with_reducible exact thicketref07_Shape.mono _ _ _)
   | (with_reducible exact thicketref08_node.mono _ _ _ _ _ _ _ _ _ _ _)
   | (with_reducible exact LeO.refl _)
   | (with_reducible exact LeO.none _)
   | (with_reducible refine LeO.ite ?_ ?_)
   | (with_reducible refine LeO.bind ?_ (fun _ => ?_))
   | exact ih0 _ _ _ _ _ _ _ _ _
   | exact ih1 _ _ _ _ _ _ _ _ _
   | exact ih2 _ _ _ _ _ _ _ _ _
   | exact thicketref07_Shape.mono _ _ _
   | exact thicketref08_node.mono _ _ _ _ _ _ _ _ _ _ _
   | exact LeO.none _
   | refine LeO.ite ?_ ?_
   | refine LeO.bind ?_ (fun _ => ?_)
def thicketref08_tree.T9 : Bool × List (List Nat × List Nat) := (true, [([], []), ([0], [0]), ([], []), ([1, 2], [1, 2]), ([3], [3]), ([], []), ([5], [5]), ([6], [6]), ([], []), ([8], [8]), ([9], [9]), ([4, 7, 10], [4, 7, 10]), ([11, 11, 0, 1, 2, 3, 4, 5, 6, 7, 8, 9, 10, 11], [11])])
def thicketref08_tree.B9 : List Nat := [0, 1, 0, 7, 15, 0, 32, 96, 0, 256, 768, 2047, 4095]
theorem thicketref08_tree.tab9 : rtab .any (opsOf Tryd.f11 9) = thicketref08_tree.T9 := by kernel_rfl
theorem thicketref08_tree.bits9 : waitsOk thicketref08_tree.T9.2 thicketref08_tree.B9 = true := by kernel_rfl
set_option maxHeartbeats 8000000 in
set_option maxRecDepth 100000 in
theorem thicketref08_tree.calls (k : Nat) (a0_0 : ByteArray) (A0_1 : Option Addr) (c0_1 : Nat) (l0_1 : List ByteArray) (a0_2 : Int) (A0_3 : Option Addr) (c0_3 : Nat) (l0_3 : List Int) (A0_4 : Option Addr) (c0_4 : Nat) (l0_4 : List (S36)) (a1 : Int) (r1 : Int) (r2 : Int) (r3 : Int) (r4 : Bool) (w : World) (hr0_1 : Kd.C Kd.string w A0_1 l0_1.length l0_1) (hc0_1 : l0_1.length ≤ c0_1) (hr0_3 : Kd.C (Kd.int .i64) w A0_3 l0_3.length l0_3) (hc0_3 : l0_3.length ≤ c0_3) (hr0_4 : Kd.C k36 w A0_4 l0_4.length l0_4) (hc0_4 : l0_4.length ≤ c0_4) (h : thicketref08_tree.f k a0_0 l0_1 a0_2 l0_3 l0_4 a1 = some (r1, r2, r3, r4)) :
  Calls Tryd.prog 11 #[.agg #[.string a0_0, .slice A0_1 l0_1.length c0_1, .int .i64 a0_2, .slice A0_3 l0_3.length c0_3, .slice A0_4 l0_4.length c0_4], .int .i64 a1] w fun e w' => e = .returned (.tuple #[.agg #[.int .i64 r1, .int .i64 r2, .int .i64 r3], .bool r4]) ∧ Below w.heap.size w w' := by
 have hu26 := Tryd.underlying26
 have hu30 := Tryd.underlying30
 have hu36 := Tryd.underlying36
 have hu66 := Tryd.underlying66
 have HR0_1 := Aside0.mk hr0_1
 have HC0_1 := Aside0.mk hc0_1
 clear hr0_1 hc0_1
 have HR0_3 := Aside0.mk hr0_3
 have HC0_3 := Aside0.mk hc0_3
 clear hr0_3 hc0_3
 have HR0_4 := Aside0.mk hr0_4
 have HC0_4 := Aside0.mk hc0_4
 clear hr0_4 hc0_4
 have HB := Aside0.mk (Below.refl w.heap.size w)
 have H : (if 0 ≤ a1 then (if a1 < (l0_4.length : Int) then (if ((rd_T36 l0_4 a1).f0) < 0 then (thicketref08_tree.j0 k a1 true a0_0 l0_1 a0_2 l0_3 l0_4 ((rd_T36 l0_4 a1).f0) ((rd_T36 l0_4 a1).f1)) else (thicketref08_tree.j0 k a1 (decide (((rd_T36 l0_4 a1).f0) ≥ a0_2)) a0_0 l0_1 a0_2 l0_3 l0_4 ((rd_T36 l0_4 a1).f0) ((rd_T36 l0_4 a1).f1))) else (none)) else (none)) = some (r1, r2, r3, r4) := h
 clear h
 by_cases c3 : 0 ≤ a1
 ·rw [if_pos c3] at H
  have c3b0 : decide (0 ≤ a1) = true := decide_eq_true c3
  clear c3
  by_cases c4 : a1 < (l0_4.length : Int)
  ·rw [if_pos c4] at H
   have c4b0 : decide (a1 < (l0_4.length : Int)) = true := decide_eq_true c4
   clear c4
   have HC5 := Aside0.mk H
   clear H
   go_enter Tryd.func11, Tryd.ntmps11
   go_upto_region 2 with (first | ((with_reducible refine gate_dst (N := 2) rfl ?_); (try (refine gate_guard (by rfl) ?_; dsimp only)); refine box_event ?hg (N := 2) ?hd (cs := #[.string a0_0, .slice A0_1 l0_1.length c0_1, .int .i64 a0_2, .slice A0_3 l0_3.length c0_3, .slice A0_4 l0_4.length c0_4]) (t := 26) ?hr ?_; (case hd => rfl); (case hg => rfl); (case hr => first | (go_simp; done) | (go_simp; rfl)); intro gb187 hg w6 hbox hb; have n0_ := Aside0.mk (below_step (kB0 HB) hb); have n1_ := Aside0.mk (hbox); have n2_ := Aside0.mk ((kg hg (kB0 HB) : w.heap.size ≤ gb187)); have n3_ := Aside0.mk ((kg hg (kB0 HB) : w.heap.size ≤ gb187)); clear HB; have HB := n0_; have BK187 := n1_; have GW187 := n2_; have GE187 := n3_; clear n0_ n1_ n2_ n3_; clear hb hbox hg) | ((with_reducible refine gate_dst (N := 4) rfl ?_); (try (refine gate_guard (by rfl) ?_; dsimp only)); refine box_event ?hg (N := 4) ?hd (cs := #[.int .i64 0, .int .i64 0, .int .i64 0]) (t := 30) ?hr ?_; (case hd => rfl); (case hg => rfl); (case hr => first | (go_simp; done) | (go_simp; rfl)); intro gb188 hg w7 hbox hb; have n0_ := Aside0.mk (blk_below (g := gb187) (o := .cells #[.string a0_0, .slice A0_1 l0_1.length c0_1, .int .i64 a0_2, .slice A0_3 l0_3.length c0_3, .slice A0_4 l0_4.length c0_4] 26 (0, 0)) (kb BK187) hb); have n1_ := Aside0.mk (below_step (kB1 HB GE187) hb); have n2_ := Aside0.mk (hbox); have n3_ := Aside0.mk ((kg hg (kB1 HB GE187) : w.heap.size ≤ gb188)); have n4_ := Aside0.mk ((kg hg (kB1 HB GE187) : w.heap.size ≤ gb188)); have n5_ := Aside0.mk ((by rw [hg]; exact Nat.ne_of_lt (blk_lt (g := gb187) (o := .cells #[.string a0_0, .slice A0_1 l0_1.length c0_1, .int .i64 a0_2, .slice A0_3 l0_3.length c0_3, .slice A0_4 l0_4.length c0_4] 26 (0, 0)) (kb BK187)) : gb187 ≠ gb188)); have n6_ := Aside0.mk ((by rw [hg]; exact Nat.ne_of_gt (blk_lt (g := gb187) (o := .cells #[.string a0_0, .slice A0_1 l0_1.length c0_1, .int .i64 a0_2, .slice A0_3 l0_3.length c0_3, .slice A0_4 l0_4.length c0_4] 26 (0, 0)) (kb BK187)) : gb188 ≠ gb187)); clear BK187; clear HB; have BK187 := n0_; have HB := n1_; have BK188 := n2_; have GW188 := n3_; have GE188 := n4_; have NB187_188 := n5_; have NB188_187 := n6_; clear n0_ n1_ n2_ n3_ n4_ n5_ n6_; clear hb hbox hg; have hnb8 := NB187_188.out; have hnc8 := NB188_187.out; have hcz9 := blk5 (w := w7) BK187.out; have p189 : 0 ≤ (a1 : Int) := of_decide_eq_true ka; have q189 : a1 < (l0_4.length : Int) := of_decide_eq_true ka; obtain ⟨ad189, A189_1, c189_1, e189, hx189_0, hx189_1, hl189_1, hi189_1⟩ := at_T36 HR0_4.out a1 p189 q189; cases e189; replace hx189_0 := (HB.out.cell (World.block_lt_of_cell? w _ hx189_0)).trans hx189_0; replace hx189_1 := (HB.out.cell (World.block_lt_of_cell? w _ hx189_1)).trans hx189_1; have HR189_1 := Aside0.mk hi189_1; have HC189_1 := Aside0.mk hl189_1; clear hi189_1 hl189_1; replace p189 := eq_true p189; replace q189 := eq_true q189) | ((with_reducible refine gate_dst (N := 6) rfl ?_); (try (refine gate_guard (by rfl) ?_; dsimp only)); refine box_event ?hg (N := 6) ?hd (cs := #[.int .i64 0, .slice none 0 0]) (t := 36) ?hr ?_; (case hd => rfl); (case hg => rfl); (case hr => first | (go_simp; done) | (go_simp; rfl)); intro gb190 hg w10 hbox hb; have n0_ := Aside0.mk (blk_below (g := gb187) (o := .cells #[.string a0_0, .slice A0_1 l0_1.length c0_1, .int .i64 a0_2, .slice A0_3 l0_3.length c0_3, .slice (some ad189) l0_4.length c0_4] 26 (0, 0)) (kb BK187) hb); have n1_ := Aside0.mk (blk_below (g := gb188) (o := .cells #[.int .i64 0, .int .i64 0, .int .i64 0] 30 (0, 0)) (kb BK188) hb); have n2_ := Aside0.mk (below_step (kB2 HB GE187 GE188) hb); have n3_ := Aside0.mk (hbox); have n4_ := Aside0.mk ((kg hg (kB2 HB GE187 GE188) : w.heap.size ≤ gb190)); have n5_ := Aside0.mk ((kg hg (kB2 HB GE187 GE188) : w.heap.size ≤ gb190)); have n6_ := Aside0.mk ((by rw [hg]; exact Nat.ne_of_lt (blk_lt (g := gb187) (o := .cells #[.string a0_0, .slice A0_1 l0_1.length c0_1, .int .i64 a0_2, .slice A0_3 l0_3.length c0_3, .slice (some ad189) l0_4.length c0_4] 26 (0, 0)) (kb BK187)) : gb187 ≠ gb190)); have n7_ := Aside0.mk ((by rw [hg]; exact Nat.ne_of_gt (blk_lt (g := gb187) (o := .cells #[.string a0_0, .slice A0_1 l0_1.length c0_1, .int .i64 a0_2, .slice A0_3 l0_3.length c0_3, .slice (some ad189) l0_4.length c0_4] 26 (0, 0)) (kb BK187)) : gb190 ≠ gb187)); have n8_ := Aside0.mk ((by rw [hg]; exact Nat.ne_of_lt (blk_lt (g := gb188) (o := .cells #[.int .i64 0, .int .i64 0, .int .i64 0] 30 (0, 0)) (kb BK188)) : gb188 ≠ gb190)); have n9_ := Aside0.mk ((by rw [hg]; exact Nat.ne_of_gt (blk_lt (g := gb188) (o := .cells #[.int .i64 0, .int .i64 0, .int .i64 0] 30 (0, 0)) (kb BK188)) : gb190 ≠ gb188)); clear BK187; clear BK188; clear HB; have BK187 := n0_; have BK188 := n1_; have HB := n2_; have BK190 := n3_; have GW190 := n4_; have GE190 := n5_; have NB187_190 := n6_; have NB190_187 := n7_; have NB188_190 := n8_; have NB190_188 := n9_; clear n0_ n1_ n2_ n3_ n4_ n5_ n6_ n7_ n8_ n9_; clear hb hbox hg; have hnb11 := NB190_187.out; have hnc11 := NB187_190.out; have hnb12 := NB190_188.out; have hnc12 := NB188_190.out; have hcz13 := blk2 (w := w10) BK190.out))
   (try simp only [Act.put, List.setIfInBounds_toArray, List.set_cons_zero, List.set_cons_succ])
   go_cut [25] (fun v25 wc => ∃ (kq : Nat) (x25_4 : Bool), v25 = .bool x25_4 ∧ Aside0 (thicketref08_tree.j0 kq a1 x25_4 a0_0 l0_1 a0_2 l0_3 l0_4 ((rd_T36 l0_4 a1).f0) ((rd_T36 l0_4 a1).f1) = some (r1, r2, r3, r4)) ∧ Aside0 (kq ≤ k) ∧ Aside0 (wc.heap[gb187]? = some (.cells #[.string a0_0, (.slice A0_1 l0_1.length c0_1), .int .i64 a0_2, (.slice A0_3 l0_3.length c0_3), (.slice (some ad189) l0_4.length c0_4)] 26 (0, 0))) ∧ Aside0 (wc.heap[gb188]? = some (.cells #[.int .i64 0, .int .i64 0, .int .i64 0] 30 (0, 0))) ∧ Aside0 (wc.heap[gb190]? = some (.cells #[.int .i64 ((rd_T36 l0_4 a1).f0), (.slice A189_1 ((rd_T36 l0_4 a1).f1).length c189_1)] 36 (0, 0))) ∧ Aside0 (Below w.heap.size w wc))
   case first =>
    have H := HC5.out
    clear HC5
    by_cases c14 : ((rd_T36 l0_4 a1).f0) < 0
    ·rw [if_pos c14] at H
     have c14b0 : decide (((rd_T36 l0_4 a1).f0) < 0) = true := decide_eq_true c14
     clear c14
     (first | rw [c14b0] | (simp only [i64_w, i32_w]; rw [c14b0]) | skip)
     have H' := Aside0.mk H
     clear H
     have hnb15 := NB190_187.out
     have hnc15 := NB187_190.out
     have hnb16 := NB190_188.out
     have hnc16 := NB188_190.out
     have hcz17 := blk2 (w := w10) BK190.out
     go_wp2
     go_meet
     case rel => exact ⟨_, (true), kr, H', ⟨ko⟩, ⟨by (with_reducible repeat (first | refine blk_drewN ?_ _ | refine blk_drew ?_ | refine blk_alloc ?_ _)); refine blk_far ?_ NB187_190.out _; (with_reducible repeat (first | refine blk_drewN ?_ _ | refine blk_drew ?_ | refine blk_alloc ?_ _)); refine blk_far ?_ NB187_190.out _; (with_reducible repeat (first | refine blk_drewN ?_ _ | refine blk_drew ?_ | refine blk_alloc ?_ _)); exact BK187.out⟩, ⟨by (with_reducible repeat (first | refine blk_drewN ?_ _ | refine blk_drew ?_ | refine blk_alloc ?_ _)); refine blk_far ?_ NB188_190.out _; (with_reducible repeat (first | refine blk_drewN ?_ _ | refine blk_drew ?_ | refine blk_alloc ?_ _)); refine blk_far ?_ NB188_190.out _; (with_reducible repeat (first | refine blk_drewN ?_ _ | refine blk_drew ?_ | refine blk_alloc ?_ _)); exact BK188.out⟩, ⟨by (with_reducible repeat (first | refine blk_drewN ?_ _ | refine blk_drew ?_ | refine blk_alloc ?_ _)); refine blk_put (cs := #[.int .i64 ((rd_T36 l0_4 a1).f0), .slice none 0 0]) ?_ 1 _ rfl; (with_reducible repeat (first | refine blk_drewN ?_ _ | refine blk_drew ?_ | refine blk_alloc ?_ _)); refine blk_put (cs := #[.int .i64 0, .slice none 0 0]) ?_ 0 _ rfl; (with_reducible repeat (first | refine blk_drewN ?_ _ | refine blk_drew ?_ | refine blk_alloc ?_ _)); exact BK190.out⟩, ⟨kB3 HB GE187 GE188 GE190⟩⟩
    ·rw [if_neg c14] at H
     have c14b0 : decide (((rd_T36 l0_4 a1).f0) < 0) = false := decide_eq_false c14
     clear c14
     (first | rw [c14b0] | (simp only [i64_w, i32_w]; rw [c14b0]) | skip)
     have H' := Aside0.mk H
     clear H
     have hnb18 := NB190_187.out
     have hnc18 := NB187_190.out
     have hnb19 := NB190_188.out
     have hnc19 := NB188_190.out
     have hcz20 := blk2 (w := w10) BK190.out
     have hnb21 := NB187_188.out
     have hnc21 := NB188_187.out
     have hcz22 := blk5 (w := w10) BK187.out
     go_wp2
     go_meet
     case rel => exact ⟨_, (decide (((rd_T36 l0_4 a1).f0) ≥ a0_2)), kr, H', ⟨ko⟩, ⟨by (with_reducible repeat (first | refine blk_drewN ?_ _ | refine blk_drew ?_ | refine blk_alloc ?_ _)); refine blk_far ?_ NB187_190.out _; (with_reducible repeat (first | refine blk_drewN ?_ _ | refine blk_drew ?_ | refine blk_alloc ?_ _)); refine blk_far ?_ NB187_190.out _; (with_reducible repeat (first | refine blk_drewN ?_ _ | refine blk_drew ?_ | refine blk_alloc ?_ _)); exact BK187.out⟩, ⟨by (with_reducible repeat (first | refine blk_drewN ?_ _ | refine blk_drew ?_ | refine blk_alloc ?_ _)); refine blk_far ?_ NB188_190.out _; (with_reducible repeat (first | refine blk_drewN ?_ _ | refine blk_drew ?_ | refine blk_alloc ?_ _)); refine blk_far ?_ NB188_190.out _; (with_reducible repeat (first | refine blk_drewN ?_ _ | refine blk_drew ?_ | refine blk_alloc ?_ _)); exact BK188.out⟩, ⟨by (with_reducible repeat (first | refine blk_drewN ?_ _ | refine blk_drew ?_ | refine blk_alloc ?_ _)); refine blk_put (cs := #[.int .i64 ((rd_T36 l0_4 a1).f0), .slice none 0 0]) ?_ 1 _ rfl; (with_reducible repeat (first | refine blk_drewN ?_ _ | refine blk_drew ?_ | refine blk_alloc ?_ _)); refine blk_put (cs := #[.int .i64 0, .slice none 0 0]) ?_ 0 _ rfl; (with_reducible repeat (first | refine blk_drewN ?_ _ | refine blk_drew ?_ | refine blk_alloc ?_ _)); exact BK190.out⟩, ⟨kB3 HB GE187 GE188 GE190⟩⟩
   case rest =>
    clear HC5
    try clear c1
    try clear p1
    try clear q1
    try clear hx1
    try clear c2
    try clear p2
    try clear c3
    try clear c3b0
    try clear c4
    try clear c4b0
    try clear c8
    try clear c11
    try clear c12
    try clear c14
    try clear c14b0
    try clear c15
    try clear c16
    try clear c18
    try clear p18
    try clear q18
    try clear hx18
    try clear c19
    try clear c21
    try clear hcz13
    try clear hcz17
    try clear hcz20
    try clear hcz22
    try clear hcz9
    try clear hx189_0
    try clear hx189_1
    try clear p189
    try clear q189
    obtain ⟨kq, x25_4, rfl, HA, HJ4, BK187, BK188, BK190, HB⟩ := hcut
    cases kq with
    | zero => exact absurd HA.out (by simp [thicketref08_tree.j0])
    | succ kj4 =>
     have H := HA.out
     clear HA
     simp only [thicketref08_tree.j0] at H
     by_cases c23 : x25_4 = true
     ·subst c23
      have H1 : ((thicketref08_broken.f 11 a1 (-1)).bind fun bt191 => (some (bt191.1, bt191.2.1, bt191.2.2.1, bt191.2.2.2))) = some (r1, r2, r3, r4) := by rw [if_pos rfl] at H; exact H
      clear H
      have H := H1
      clear H1
      replace H := Option.bind_eq_some_iff.mp H
      obtain ⟨⟨t191, t192, t193, t194⟩, A240, H⟩ := H
      replace H : (some (t191, t192, t193, t194)) = some (r1, r2, r3, r4) := H
      have A24 := Aside0.mk A240
      clear A240
      simp only [Option.some.injEq, Prod.mk.injEq] at H
      obtain ⟨rfl, rfl, rfl, rfl⟩ := H
      go_wp2_with (first | ((with_reducible refine gate_callee (f := 30) rfl ?_); refine goesL_ (some 27) rfl rfl Tryd.func30 (by kernel_rfl) rfl #[.int .i64 11, .int .i64 a1, .int .i64 (-1)] rfl (by (try simp only [List.map_toArray, List.map_cons, List.map_nil]); first | done | rfl | (simp only [List.length_drop, List.length_take]; rfl)) ?_; (with_reducible refine (thicketref08_broken.calls 11 a1 (-1) t191 t192 t193 t194 _ A24.out).mono ?_); rintro e w25 ⟨rfl, hb⟩; refine ⟨_, rfl, ?_⟩; have n0_ := Aside0.mk (blk_below (g := gb187) (o := .cells #[.string a0_0, .slice A0_1 l0_1.length c0_1, .int .i64 a0_2, .slice A0_3 l0_3.length c0_3, .slice (some ad189) l0_4.length c0_4] 26 (0, 0)) (kb BK187) hb); have n1_ := Aside0.mk (blk_below (g := gb188) (o := .cells #[.int .i64 0, .int .i64 0, .int .i64 0] 30 (0, 0)) (kb BK188) hb); have n2_ := Aside0.mk (blk_below (g := gb190) (o := .cells #[.int .i64 ((rd_T36 l0_4 a1).f0), .slice A189_1 ((rd_T36 l0_4 a1).f1).length c189_1] 36 (0, 0)) (kb BK190) hb); have n3_ := Aside0.mk (below_step (kB3 HB GE187 GE188 GE190) hb); clear BK187; clear BK188; clear BK190; clear HB; have BK187 := n0_; have BK188 := n1_; have BK190 := n2_; have HB := n3_; clear n0_ n1_ n2_ n3_; (try clear hb); (try clear hb2); (try clear hk); (try clear hi); have hnb26 := NB188_187.out; have hnc26 := NB187_188.out; have hnb27 := NB188_190.out; have hnc27 := NB190_188.out; have hcz28 := blk3 (w := w25) BK188.out))
      refine bodyPost_ret (results_ct rfl _ _ gb188 30 #[.int .i64 t191, .int .i64 t192, .int .i64 t193] (0, 0) _ rfl (by (with_reducible repeat (first | refine blk_drewN ?_ _ | refine blk_drew ?_ | refine blk_alloc ?_ _)); refine blk_put (cs := #[.int .i64 t191, .int .i64 t192, .int .i64 0]) ?_ 2 _ rfl; (with_reducible repeat (first | refine blk_drewN ?_ _ | refine blk_drew ?_ | refine blk_alloc ?_ _)); refine blk_put (cs := #[.int .i64 t191, .int .i64 0, .int .i64 0]) ?_ 1 _ rfl; (with_reducible repeat (first | refine blk_drewN ?_ _ | refine blk_drew ?_ | refine blk_alloc ?_ _)); refine blk_put (cs := #[.int .i64 0, .int .i64 0, .int .i64 0]) ?_ 0 _ rfl; (with_reducible repeat (first | refine blk_drewN ?_ _ | refine blk_drew ?_ | refine blk_alloc ?_ _)); exact BK188.out) Tryd.underlying30 rfl (by kernel_rfl)) rfl ?_
      exact ⟨by first | rfl | (simp [errW_none, errW_some] <;> rfl) | (simp [*, errW_none, errW_some] <;> rfl), kB3 HB GE187 GE188 GE190⟩
     ·replace c23 := Bool.eq_false_iff.mpr c23
      subst c23
      have H1 : (if (((rd_T36 l0_4 a1).f1).length : Int) < 1 then (thicketref08_tree.j1 kj4 a1 true a0_0 l0_1 a0_2 l0_3 l0_4 ((rd_T36 l0_4 a1).f0) ((rd_T36 l0_4 a1).f1)) else (thicketref08_tree.j1 kj4 a1 (decide ((((rd_T36 l0_4 a1).f1).length : Int) > 8191)) a0_0 l0_1 a0_2 l0_3 l0_4 ((rd_T36 l0_4 a1).f0) ((rd_T36 l0_4 a1).f1))) = some (r1, r2, r3, r4) := by rw [if_neg (show ¬ (false = true) by decide)] at H; exact H
      clear H
      have H := H1
      clear H1
      have HC29 := Aside0.mk H
      clear H
      go_upto_region 4 with (fail)
      go_cut [39] (fun v39 wc => ∃ (kq : Nat) (x39_28 : Bool), v39 = .bool x39_28 ∧ Aside0 (thicketref08_tree.j1 kq a1 x39_28 a0_0 l0_1 a0_2 l0_3 l0_4 ((rd_T36 l0_4 a1).f0) ((rd_T36 l0_4 a1).f1) = some (r1, r2, r3, r4)) ∧ Aside0 (kq ≤ kj4) ∧ Aside0 (wc.heap[gb187]? = some (.cells #[.string a0_0, (.slice A0_1 l0_1.length c0_1), .int .i64 a0_2, (.slice A0_3 l0_3.length c0_3), (.slice (some ad189) l0_4.length c0_4)] 26 (0, 0))) ∧ Aside0 (wc.heap[gb188]? = some (.cells #[.int .i64 0, .int .i64 0, .int .i64 0] 30 (0, 0))) ∧ Aside0 (wc.heap[gb190]? = some (.cells #[.int .i64 ((rd_T36 l0_4 a1).f0), (.slice A189_1 ((rd_T36 l0_4 a1).f1).length c189_1)] 36 (0, 0))) ∧ Aside0 (Below w.heap.size w wc))
      case first =>
       have H := HC29.out
       clear HC29
       by_cases c30 : (((rd_T36 l0_4 a1).f1).length : Int) < 1
       ·rw [if_pos c30] at H
        have c30b0 : decide ((((rd_T36 l0_4 a1).f1).length : Int) < 1) = true := decide_eq_true c30
        have c30b1 : decide (((rd_T36 l0_4 a1).f1).length < 1) = true := decide_eq_true (by omega)
        clear c30
        (first | rw [c30b0] | (simp only [i64_w, i32_w]; rw [c30b0]) | skip)
        have H' := Aside0.mk H
        clear H
        have hnb31 := NB190_187.out
        have hnc31 := NB187_190.out
        have hnb32 := NB190_188.out
        have hnc32 := NB188_190.out
        have hcz33 := blk2 (w := wc) BK190.out
        go_wp2
        go_meet
        case rel => exact ⟨_, (true), kr, H', ⟨by have := HJ4.out; first | omega | exact Nat.le_refl _⟩, ⟨kb BK187⟩, ⟨kb BK188⟩, ⟨kb BK190⟩, ⟨kB3 HB GE187 GE188 GE190⟩⟩
       ·rw [if_neg c30] at H
        have c30b0 : decide ((((rd_T36 l0_4 a1).f1).length : Int) < 1) = false := decide_eq_false c30
        have c30b1 : decide (((rd_T36 l0_4 a1).f1).length < 1) = false := decide_eq_false (by omega)
        clear c30
        (first | rw [c30b0] | (simp only [i64_w, i32_w]; rw [c30b0]) | skip)
        have H' := Aside0.mk H
        clear H
        have hnb34 := NB190_187.out
        have hnc34 := NB187_190.out
        have hnb35 := NB190_188.out
        have hnc35 := NB188_190.out
        have hcz36 := blk2 (w := wc) BK190.out
        go_wp2
        go_meet
        case rel => exact ⟨_, (decide ((((rd_T36 l0_4 a1).f1).length : Int) > 8191)), kr, H', ⟨by have := HJ4.out; first | omega | exact Nat.le_refl _⟩, ⟨kb BK187⟩, ⟨kb BK188⟩, ⟨kb BK190⟩, ⟨kB3 HB GE187 GE188 GE190⟩⟩
      case rest =>
       clear HC29
       try clear c1
       try clear p1
       try clear q1
       try clear hx1
       try clear c2
       try clear p2
       try clear c3
       try clear c3b0
       try clear c4
       try clear c4b0
       try clear c8
       try clear c11
       try clear c12
       try clear c14
       try clear c14b0
       try clear c15
       try clear c16
       try clear c18
       try clear p18
       try clear q18
       try clear hx18
       try clear c19
       try clear c21
       try clear c23
       try clear c26
       try clear c27
       try clear c30
       try clear c30b0
       try clear c30b1
       try clear c31
       try clear c32
       try clear c34
       try clear c35
       try clear hcz13
       try clear hcz17
       try clear hcz20
       try clear hcz22
       try clear hcz28
       try clear hcz33
       try clear hcz36
       try clear hcz9
       try clear hx189_0
       try clear hx189_1
       try clear p189
       try clear q189
       obtain ⟨kq, x39_28, rfl, HA, HJ28, BK187, BK188, BK190, HB⟩ := hcut
       cases kq with
       | zero => exact absurd HA.out (by simp [thicketref08_tree.j1])
       | succ kj28 =>
        have H := HA.out
        clear HA
        simp only [thicketref08_tree.j1] at H
        by_cases c37 : x39_28 = true
        ·subst c37
         have H1 : ((thicketref08_broken.f 12 a1 (-1)).bind fun bt195 => (some (bt195.1, bt195.2.1, bt195.2.2.1, bt195.2.2.2))) = some (r1, r2, r3, r4) := by rw [if_pos rfl] at H; exact H
         clear H
         have H := H1
         clear H1
         replace H := Option.bind_eq_some_iff.mp H
         obtain ⟨⟨t195, t196, t197, t198⟩, A380, H⟩ := H
         replace H : (some (t195, t196, t197, t198)) = some (r1, r2, r3, r4) := H
         have A38 := Aside0.mk A380
         clear A380
         simp only [Option.some.injEq, Prod.mk.injEq] at H
         obtain ⟨rfl, rfl, rfl, rfl⟩ := H
         go_wp2_with (first | ((with_reducible refine gate_callee (f := 30) rfl ?_); refine goesL_ (some 41) rfl rfl Tryd.func30 (by kernel_rfl) rfl #[.int .i64 12, .int .i64 a1, .int .i64 (-1)] rfl (by (try simp only [List.map_toArray, List.map_cons, List.map_nil]); first | done | rfl | (simp only [List.length_drop, List.length_take]; rfl)) ?_; (with_reducible refine (thicketref08_broken.calls 12 a1 (-1) t195 t196 t197 t198 _ A38.out).mono ?_); rintro e w39 ⟨rfl, hb⟩; refine ⟨_, rfl, ?_⟩; have n0_ := Aside0.mk (blk_below (g := gb187) (o := .cells #[.string a0_0, .slice A0_1 l0_1.length c0_1, .int .i64 a0_2, .slice A0_3 l0_3.length c0_3, .slice (some ad189) l0_4.length c0_4] 26 (0, 0)) (kb BK187) hb); have n1_ := Aside0.mk (blk_below (g := gb188) (o := .cells #[.int .i64 0, .int .i64 0, .int .i64 0] 30 (0, 0)) (kb BK188) hb); have n2_ := Aside0.mk (blk_below (g := gb190) (o := .cells #[.int .i64 ((rd_T36 l0_4 a1).f0), .slice A189_1 ((rd_T36 l0_4 a1).f1).length c189_1] 36 (0, 0)) (kb BK190) hb); have n3_ := Aside0.mk (below_step (kB3 HB GE187 GE188 GE190) hb); clear BK187; clear BK188; clear BK190; clear HB; have BK187 := n0_; have BK188 := n1_; have BK190 := n2_; have HB := n3_; clear n0_ n1_ n2_ n3_; (try clear hb); (try clear hb2); (try clear hk); (try clear hi); have hnb40 := NB188_187.out; have hnc40 := NB187_188.out; have hnb41 := NB188_190.out; have hnc41 := NB190_188.out; have hcz42 := blk3 (w := w39) BK188.out))
         refine bodyPost_ret (results_ct rfl _ _ gb188 30 #[.int .i64 t195, .int .i64 t196, .int .i64 t197] (0, 0) _ rfl (by (with_reducible repeat (first | refine blk_drewN ?_ _ | refine blk_drew ?_ | refine blk_alloc ?_ _)); refine blk_put (cs := #[.int .i64 t195, .int .i64 t196, .int .i64 0]) ?_ 2 _ rfl; (with_reducible repeat (first | refine blk_drewN ?_ _ | refine blk_drew ?_ | refine blk_alloc ?_ _)); refine blk_put (cs := #[.int .i64 t195, .int .i64 0, .int .i64 0]) ?_ 1 _ rfl; (with_reducible repeat (first | refine blk_drewN ?_ _ | refine blk_drew ?_ | refine blk_alloc ?_ _)); refine blk_put (cs := #[.int .i64 0, .int .i64 0, .int .i64 0]) ?_ 0 _ rfl; (with_reducible repeat (first | refine blk_drewN ?_ _ | refine blk_drew ?_ | refine blk_alloc ?_ _)); exact BK188.out) Tryd.underlying30 rfl (by kernel_rfl)) rfl ?_
         exact ⟨by first | rfl | (simp [errW_none, errW_some] <;> rfl) | (simp [*, errW_none, errW_some] <;> rfl), kB3 HB GE187 GE188 GE190⟩
        ·replace c37 := Bool.eq_false_iff.mpr c37
         subst c37
         have H1 : (thicketref08_tree.l0 kj28 a1 0 a0_0 l0_1 a0_2 l0_3 l0_4 ((rd_T36 l0_4 a1).f0) ((rd_T36 l0_4 a1).f1)) = some (r1, r2, r3, r4) := by rw [if_neg (show ¬ (false = true) by decide)] at H; exact H
         clear H
         have H := H1
         clear H1
         have H' := Aside0.mk H
         clear H
         go_wp2
         go_loopg [7] kj28 (fun kq v7 w' => ∃ (x7_3 : Int) (x189000_3 : Int) (x189001_3 : Int) (x189002_3 : Int), v7 = .int .i64 x7_3 ∧ Aside0 (thicketref08_tree.l0 kq a1 x7_3 a0_0 l0_1 a0_2 l0_3 l0_4 ((rd_T36 l0_4 a1).f0) ((rd_T36 l0_4 a1).f1) = some (r1, r2, r3, r4)) ∧ Aside0 (kq ≤ kj28) ∧ Aside0 (w'.heap[gb187]? = some (.cells #[.string a0_0, (.slice A0_1 l0_1.length c0_1), .int .i64 a0_2, (.slice A0_3 l0_3.length c0_3), (.slice (some ad189) l0_4.length c0_4)] 26 (0, 0))) ∧ Aside0 (w'.heap[gb188]? = some (.cells #[.int .i64 x189000_3, .int .i64 x189001_3, .int .i64 x189002_3] 30 (0, 0))) ∧ Aside0 (w'.heap[gb190]? = some (.cells #[.int .i64 ((rd_T36 l0_4 a1).f0), (.slice A189_1 ((rd_T36 l0_4 a1).f1).length c189_1)] 36 (0, 0))) ∧ Aside0 (Below w.heap.size w w'))
         case atStart => exact ⟨(0), (0), (0), (0), kr, H', ⟨Nat.le_refl _⟩, ⟨kb BK187⟩, ⟨kb BK188⟩, ⟨kb BK190⟩, ⟨kB3 HB GE187 GE188 GE190⟩⟩
         case round =>
          clear H'
          try clear c1
          try clear p1
          try clear q1
          try clear hx1
          try clear c2
          try clear p2
          try clear c3
          try clear c3b0
          try clear c4
          try clear c4b0
          try clear c8
          try clear c11
          try clear c12
          try clear c14
          try clear c14b0
          try clear c15
          try clear c16
          try clear c18
          try clear p18
          try clear q18
          try clear hx18
          try clear c19
          try clear c21
          try clear c23
          try clear c26
          try clear c27
          try clear c30
          try clear c30b0
          try clear c30b1
          try clear c31
          try clear c32
          try clear c34
          try clear c35
          try clear c37
          try clear c40
          try clear c41
          try clear hcz13
          try clear hcz17
          try clear hcz20
          try clear hcz22
          try clear hcz28
          try clear hcz33
          try clear hcz36
          try clear hcz42
          try clear hcz9
          try clear hx189_0
          try clear hx189_1
          try clear p189
          try clear q189
          obtain ⟨x7_3, x189000_3, x189001_3, x189002_3, rfl, HA, HK3, BK187, BK188, BK190, HB⟩ := hrel
          cases gk with
          | zero => exact absurd HA.out (by simp [thicketref08_tree.l0])
          | succ k3 =>
           have H := HA.out
           clear HA
           simp only [thicketref08_tree.l0] at H
           by_cases c43 : x7_3 < (((rd_T36 l0_4 a1).f1).length : Int)
           ·rw [if_pos c43] at H
            have c43b0 : decide (x7_3 < (((rd_T36 l0_4 a1).f1).length : Int)) = true := decide_eq_true c43
            clear c43
            by_cases c44 : 0 ≤ x7_3
            ·rw [if_pos c44] at H
             have c44b0 : decide (0 ≤ x7_3) = true := decide_eq_true c44
             clear c44
             replace H := Option.bind_eq_some_iff.mp H
             obtain ⟨t200, A450, H⟩ := H
             replace H : (if t200 = 0 then (thicketref08_tree.l0 k3 a1 (wrap64 (x7_3 + 1)) a0_0 l0_1 a0_2 l0_3 l0_4 ((rd_T36 l0_4 a1).f0) ((rd_T36 l0_4 a1).f1)) else ((thicketref08_broken.f t200 a1 x7_3).bind fun bt201 => (some (bt201.1, bt201.2.1, bt201.2.2.1, bt201.2.2.2)))) = some (r1, r2, r3, r4) := H
             have A45 := Aside0.mk A450
             clear A450
             by_cases c46 : t200 = 0
             ·rw [if_pos c46] at H
              have c46b0 : (t200 == 0) = true := beq_iff_eq.mpr c46
              have c46b1 : (t200 != 0) = false := bne_eq_false_iff_eq.mpr c46
              clear c46
              have H' := Aside0.mk H
              clear H
              have hnb47 := NB190_187.out
              have hnc47 := NB187_190.out
              have hnb48 := NB190_188.out
              have hnc48 := NB188_190.out
              have hcz49 := blk2 (w := wr) BK190.out
              try go_wp2
              have n0_ := Aside0.mk (blk_drew BK187.out)
              have n1_ := Aside0.mk (blk_drew BK188.out)
              have n2_ := Aside0.mk (blk_drew BK190.out)
              have n3_ := Aside0.mk (below_drew1 HB.out)
              clear BK187
              clear BK188
              clear BK190
              clear HB
              have BK187 := n0_
              have BK188 := n1_
              have BK190 := n2_
              have HB := n3_
              clear n0_ n1_ n2_ n3_
              have p199 : 0 ≤ (x7_3 : Int) := of_decide_eq_true ka
              have q199 : x7_3 < (((rd_T36 l0_4 a1).f1).length : Int) := of_decide_eq_true ka
              obtain ⟨ad199, A199_4, c199_4, e199, hx199_0, hx199_1, hx199_2, hx199_3, hx199_4, hx199_5, hx199_6, hx199_7, hl199_4, hi199_4⟩ := at_T66 HR189_1.out x7_3 p199 q199
              have hw199_7 := hx199_7
              have hw199_6 := hx199_6
              have hw199_5 := hx199_5
              have hw199_4 := hx199_4
              have hw199_3 := hx199_3
              have hw199_2 := hx199_2
              have hw199_1 := hx199_1
              have hw199_0 := hx199_0
              cases e199
              replace hx199_0 := (HB.out.cell (World.block_lt_of_cell? w _ hx199_0)).trans hx199_0
              replace hx199_1 := (HB.out.cell (World.block_lt_of_cell? w _ hx199_1)).trans hx199_1
              replace hx199_2 := (HB.out.cell (World.block_lt_of_cell? w _ hx199_2)).trans hx199_2
              replace hx199_3 := (HB.out.cell (World.block_lt_of_cell? w _ hx199_3)).trans hx199_3
              replace hx199_4 := (HB.out.cell (World.block_lt_of_cell? w _ hx199_4)).trans hx199_4
              replace hx199_5 := (HB.out.cell (World.block_lt_of_cell? w _ hx199_5)).trans hx199_5
              replace hx199_6 := (HB.out.cell (World.block_lt_of_cell? w _ hx199_6)).trans hx199_6
              replace hx199_7 := (HB.out.cell (World.block_lt_of_cell? w _ hx199_7)).trans hx199_7
              have HR199_4 := Aside0.mk hi199_4
              have HC199_4 := Aside0.mk hl199_4
              clear hi199_4 hl199_4
              replace p199 := eq_true p199
              replace q199 := eq_true q199
              refine start_ (n := 13) (S := fun w' => w'.cell? ⟨gb190, 0, none⟩ = some (.int .i64 ((rd_T36 l0_4 a1).f0)) ∧ w'.cell? ⟨gb190, 1, none⟩ = some (.slice (some ad199) ((rd_T36 l0_4 a1).f1).length c189_1) ∧ w'.cell? ⟨gb187, 0, none⟩ = some (.string a0_0) ∧ w'.cell? ⟨gb187, 1, none⟩ = some (.slice A0_1 l0_1.length c0_1) ∧ w'.cell? ⟨gb187, 2, none⟩ = some (.int .i64 a0_2) ∧ w'.cell? ⟨gb187, 3, none⟩ = some (.slice A0_3 l0_3.length c0_3) ∧ w'.cell? ⟨gb187, 4, none⟩ = some (.slice (some ad189) l0_4.length c0_4) ∧ w'.cell? (ad199.add ((x7_3).toNat * 8)) = some (.int .u8 ((rd_T66 ((rd_T36 l0_4 a1).f1) x7_3).f0)) ∧ w'.cell? ⟨(ad199.add ((x7_3).toNat * 8)).block, (ad199.add ((x7_3).toNat * 8)).off + 1, none⟩ = some (.int .i64 ((rd_T66 ((rd_T36 l0_4 a1).f1) x7_3).f1)) ∧ w'.cell? ⟨(ad199.add ((x7_3).toNat * 8)).block, (ad199.add ((x7_3).toNat * 8)).off + 2, none⟩ = some (.int .i64 ((rd_T66 ((rd_T36 l0_4 a1).f1) x7_3).f2)) ∧ w'.cell? ⟨(ad199.add ((x7_3).toNat * 8)).block, (ad199.add ((x7_3).toNat * 8)).off + 3, none⟩ = some (.float .f64 ((rd_T66 ((rd_T36 l0_4 a1).f1) x7_3).f3)) ∧ w'.cell? ⟨(ad199.add ((x7_3).toNat * 8)).block, (ad199.add ((x7_3).toNat * 8)).off + 4, none⟩ = some (.slice A199_4 ((rd_T66 ((rd_T36 l0_4 a1).f1) x7_3).f4).length c199_4) ∧ w'.cell? ⟨(ad199.add ((x7_3).toNat * 8)).block, (ad199.add ((x7_3).toNat * 8)).off + 5, none⟩ = some (.int .u8 ((rd_T66 ((rd_T36 l0_4 a1).f1) x7_3).f5)) ∧ w'.cell? ⟨(ad199.add ((x7_3).toNat * 8)).block, (ad199.add ((x7_3).toNat * 8)).off + 6, none⟩ = some (.int .i64 ((rd_T66 ((rd_T36 l0_4 a1).f1) x7_3).f6)) ∧ w'.cell? ⟨(ad199.add ((x7_3).toNat * 8)).block, (ad199.add ((x7_3).toNat * 8)).off + 7, none⟩ = some (.int .i64 ((rd_T66 ((rd_T36 l0_4 a1).f1) x7_3).f7))) (ds := []) #[false, false, false, false, false, false, false, false, false, false, false, false, false] (by kernel_rfl) rfl rfl ⟨(blk_cell BK190.out 0).trans rfl, (blk_cell BK190.out 1).trans rfl, (blk_cell BK187.out 0).trans rfl, (blk_cell BK187.out 1).trans rfl, (blk_cell BK187.out 2).trans rfl, (blk_cell BK187.out 3).trans rfl, (blk_cell BK187.out 4).trans rfl, ((HB.out.cell (World.block_lt_of_cell? w _ hw199_0)).trans hw199_0), ((HB.out.cell (World.block_lt_of_cell? w _ hw199_1)).trans hw199_1), ((HB.out.cell (World.block_lt_of_cell? w _ hw199_2)).trans hw199_2), ((HB.out.cell (World.block_lt_of_cell? w _ hw199_3)).trans hw199_3), ((HB.out.cell (World.block_lt_of_cell? w _ hw199_4)).trans hw199_4), ((HB.out.cell (World.block_lt_of_cell? w _ hw199_5)).trans hw199_5), ((HB.out.cell (World.block_lt_of_cell? w _ hw199_6)).trans hw199_6), ((HB.out.cell (World.block_lt_of_cell? w _ hw199_7)).trans hw199_7)⟩ (fun hHeld => ?_); refine with_tabW thicketref08_tree.tab9 thicketref08_tree.bits9 (fun HT_ HW_ => ?_)
              generalize wr.drew = w50 at BK187 BK188 BK190 HB HR199_4 hx199_0 hx199_1 hx199_2 hx199_3 hx199_4 hx199_5 hx199_6 hx199_7 hHeld ⊢
              refine pure_ (i := 0) (N := some 51) (v := ?_) (a' := ?_) #[true, false, false, false, false, false, false, false, false, false, false, false, false] rfl rfl (any_of HT_.out (by kernel_rfl)) (fun _ _ _ h => h) (Or.inl ⟨by rfl, ?_⟩) ?_ ?_
              rotate_left
              ·intro w'
               go_simp
               with_reducible rfl
              rotate_left
              ·simp only [Act.put, List.setIfInBounds_toArray, List.set_cons_zero, List.set_cons_succ, i64_w, i32_w]
               rfl
              refine pure_ (i := 2) (N := some 53) (v := ?_) (a' := ?_) #[true, false, true, false, false, false, false, false, false, false, false, false, false] rfl rfl (any_of HT_.out (by kernel_rfl)) (fun _ _ _ h => h) (Or.inl ⟨by rfl, ?_⟩) ?_ ?_
              rotate_left
              ·intro w'
               go_simp
               with_reducible rfl
              rotate_left
              ·simp only [Act.put, List.setIfInBounds_toArray, List.set_cons_zero, List.set_cons_succ, i64_w, i32_w]
               rfl
              refine pure_ (i := 5) (N := some 56) (v := ?_) (a' := ?_) #[true, false, true, false, false, true, false, false, false, false, false, false, false] rfl rfl (any_of HT_.out (by kernel_rfl)) (fun _ _ _ h => h) (Or.inl ⟨by rfl, ?_⟩) ?_ ?_
              rotate_left
              ·intro w'
               go_simp
               with_reducible rfl
              rotate_left
              ·simp only [Act.put, List.setIfInBounds_toArray, List.set_cons_zero, List.set_cons_succ, i64_w, i32_w]
               rfl
              refine pure_ (i := 8) (N := some 59) (v := ?_) (a' := ?_) #[true, false, true, false, false, true, false, false, true, false, false, false, false] rfl rfl (any_of HT_.out (by kernel_rfl)) (fun _ _ _ h => h) (Or.inl ⟨by rfl, ?_⟩) ?_ ?_
              rotate_left
              ·intro w'
               go_simp
               with_reducible rfl
              rotate_left
              ·simp only [Act.put, List.setIfInBounds_toArray, List.set_cons_zero, List.set_cons_succ, i64_w, i32_w]
               rfl
              refine take_ (i := 1) (N := some 52) (v := ?_) (a' := ?_) #[true, true, true, false, false, true, false, false, true, false, false, false, false] rfl rfl (take_ofW HT_.out HW_.out (by kernel_rfl)) (fun _ _ _ h => h) (Or.inl ⟨by rfl, ?_⟩) hHeld ?_ ?_
              rotate_left
              ·rintro w' ⟨s0, s1, s2, s3, s4, s5, s6, s7, s8, s9, s10, s11, s12, s13, s14⟩
               go_simp
               with_reducible rfl
              rotate_left
              ·simp only [Act.put, List.setIfInBounds_toArray, List.set_cons_zero, List.set_cons_succ, i64_w, i32_w]
               rfl
              refine pure_ (i := 3) (N := some 54) (v := ?_) (a' := ?_) #[true, true, true, true, false, true, false, false, true, false, false, false, false] rfl rfl (any_of HT_.out (by kernel_rfl)) (fun _ _ _ h => h) (Or.inl ⟨by rfl, ?_⟩) ?_ ?_
              rotate_left
              ·intro w'
               go_simp
               with_reducible rfl
              rotate_left
              ·simp only [Act.put, List.setIfInBounds_toArray, List.set_cons_zero, List.set_cons_succ, i64_w, i32_w]
               rfl
              refine take_ (i := 4) (N := some 55) (v := ?_) (a' := ?_) #[true, true, true, true, true, true, false, false, true, false, false, false, false] rfl rfl (take_ofW HT_.out HW_.out (by kernel_rfl)) (fun _ _ _ h => h) (Or.inl ⟨by rfl, ?_⟩) hHeld ?_ ?_
              rotate_left
              ·rintro w' ⟨s0, s1, s2, s3, s4, s5, s6, s7, s8, s9, s10, s11, s12, s13, s14⟩
               go_simp
               with_reducible rfl
              rotate_left
              ·simp only [Act.put, List.setIfInBounds_toArray, List.set_cons_zero, List.set_cons_succ, i64_w, i32_w]
               rfl
              refine take_ (i := 6) (N := some 57) (v := ?_) (a' := ?_) #[true, true, true, true, true, true, true, false, true, false, false, false, false] rfl rfl (take_ofW HT_.out HW_.out (by kernel_rfl)) (fun _ _ _ h => h) (Or.inl ⟨by rfl, ?_⟩) hHeld ?_ ?_
              rotate_left
              ·rintro w' ⟨s0, s1, s2, s3, s4, s5, s6, s7, s8, s9, s10, s11, s12, s13, s14⟩
               go_simp
               with_reducible rfl
              rotate_left
              ·simp only [Act.put, List.setIfInBounds_toArray, List.set_cons_zero, List.set_cons_succ, i64_w, i32_w]
               rfl
              refine pure_ (i := 7) (N := some 58) (v := ?_) (a' := ?_) #[true, true, true, true, true, true, true, true, true, false, false, false, false] rfl rfl (any_of HT_.out (by kernel_rfl)) (fun _ _ _ h => h) (Or.inl ⟨by rfl, ?_⟩) ?_ ?_
              rotate_left
              ·intro w'
               go_simp
               with_reducible rfl
              rotate_left
              ·simp only [Act.put, List.setIfInBounds_toArray, List.set_cons_zero, List.set_cons_succ, i64_w, i32_w]
               rfl
              refine take_ (i := 9) (N := some 60) (v := ?_) (a' := ?_) #[true, true, true, true, true, true, true, true, true, true, false, false, false] rfl rfl (take_ofW HT_.out HW_.out (by kernel_rfl)) (fun _ _ _ h => h) (Or.inl ⟨by rfl, ?_⟩) hHeld ?_ ?_
              rotate_left
              ·rintro w' ⟨s0, s1, s2, s3, s4, s5, s6, s7, s8, s9, s10, s11, s12, s13, s14⟩
               go_simp
               with_reducible rfl
              rotate_left
              ·simp only [Act.put, List.setIfInBounds_toArray, List.set_cons_zero, List.set_cons_succ, i64_w, i32_w]
               rfl
              refine pure_ (i := 10) (N := some 61) (v := ?_) (a' := ?_) #[true, true, true, true, true, true, true, true, true, true, true, false, false] rfl rfl (any_of HT_.out (by kernel_rfl)) (fun _ _ _ h => h) (Or.inl ⟨by rfl, ?_⟩) ?_ ?_
              rotate_left
              ·intro w'
               go_simp
               with_reducible rfl
              rotate_left
              ·simp only [Act.put, List.setIfInBounds_toArray, List.set_cons_zero, List.set_cons_succ, i64_w, i32_w]
               rfl
              refine one_ (i := 11) (N := some 62) #[true, true, true, true, true, true, true, true, true, true, true, true, false] rfl rfl (one_of HT_.out (by kernel_rfl)) (by decide) (fun K hK => ?_)
              refine goes_ Tryd.func31 (by kernel_rfl) rfl #[.agg #[.int .u8 ((rd_T66 ((rd_T36 l0_4 a1).f1) x7_3).f0), .int .i64 ((rd_T66 ((rd_T36 l0_4 a1).f1) x7_3).f1), .int .i64 ((rd_T66 ((rd_T36 l0_4 a1).f1) x7_3).f2), .float .f64 ((rd_T66 ((rd_T36 l0_4 a1).f1) x7_3).f3), .slice A199_4 ((rd_T66 ((rd_T36 l0_4 a1).f1) x7_3).f4).length c199_4, .int .u8 ((rd_T66 ((rd_T36 l0_4 a1).f1) x7_3).f5), .int .i64 ((rd_T66 ((rd_T36 l0_4 a1).f1) x7_3).f6), .int .i64 ((rd_T66 ((rd_T36 l0_4 a1).f1) x7_3).f7)], .int .i64 (l0_1.length : Int), .int .i64 (((rd_T36 l0_4 a1).f1).length : Int)] (by rfl) rfl rfl (by (try simp only [List.map_toArray, List.map_cons, List.map_nil]); first | done | rfl | (simp only [List.length_drop, List.length_take]; rfl)) ?_
              with_reducible refine (thicketref08_node.calls k3 ((rd_T66 ((rd_T36 l0_4 a1).f1) x7_3).f0) ((rd_T66 ((rd_T36 l0_4 a1).f1) x7_3).f1) ((rd_T66 ((rd_T36 l0_4 a1).f1) x7_3).f2) ((rd_T66 ((rd_T36 l0_4 a1).f1) x7_3).f3) _ _ ((rd_T66 ((rd_T36 l0_4 a1).f1) x7_3).f4) ((rd_T66 ((rd_T36 l0_4 a1).f1) x7_3).f5) ((rd_T66 ((rd_T36 l0_4 a1).f1) x7_3).f6) ((rd_T66 ((rd_T36 l0_4 a1).f1) x7_3).f7) (l0_1.length : Int) (((rd_T36 l0_4 a1).f1).length : Int) t200 _ ?side1 ?side2 A45.out).mono ?_
              (case side1 => repeat (first | exact (Kd.C_below HR199_4.out HB.out) | (with_reducible refine Kd.C_alloc ?_ _) | (with_reducible refine Kd.C_drewN ?_ _) | (with_reducible refine Kd.C_drew ?_)))
              (case side2 => exact HC199_4.out)
              rintro e w51 ⟨rfl, hb⟩
              refine ⟨_, rfl, ?_⟩
              have n0_ := Aside0.mk (blk_below (g := gb187) (o := .cells #[.string a0_0, .slice A0_1 l0_1.length c0_1, .int .i64 a0_2, .slice A0_3 l0_3.length c0_3, .slice (some ad189) l0_4.length c0_4] 26 (0, 0)) (kb BK187) hb)
              have n1_ := Aside0.mk (blk_below (g := gb188) (o := .cells #[.int .i64 x189000_3, .int .i64 x189001_3, .int .i64 x189002_3] 30 (0, 0)) (kb BK188) hb)
              have n2_ := Aside0.mk (blk_below (g := gb190) (o := .cells #[.int .i64 ((rd_T36 l0_4 a1).f0), .slice (some ad199) ((rd_T36 l0_4 a1).f1).length c189_1] 36 (0, 0)) (kb BK190) hb)
              have n3_ := Aside0.mk (below_step (kB3 HB GE187 GE188 GE190) hb)
              clear BK187
              clear BK188
              clear BK190
              clear HB
              have BK187 := n0_
              have BK188 := n1_
              have BK190 := n2_
              have HB := n3_
              clear n0_ n1_ n2_ n3_
              (try clear hb)
              (try clear hb2)
              (try clear hk)
              (try clear hi)
              refine hK.out _ _ ⟨(blk_cell BK190.out 0).trans rfl, (blk_cell BK190.out 1).trans rfl, (blk_cell BK187.out 0).trans rfl, (blk_cell BK187.out 1).trans rfl, (blk_cell BK187.out 2).trans rfl, (blk_cell BK187.out 3).trans rfl, (blk_cell BK187.out 4).trans rfl, ((HB.out.cell (World.block_lt_of_cell? w _ hw199_0)).trans hw199_0), ((HB.out.cell (World.block_lt_of_cell? w _ hw199_1)).trans hw199_1), ((HB.out.cell (World.block_lt_of_cell? w _ hw199_2)).trans hw199_2), ((HB.out.cell (World.block_lt_of_cell? w _ hw199_3)).trans hw199_3), ((HB.out.cell (World.block_lt_of_cell? w _ hw199_4)).trans hw199_4), ((HB.out.cell (World.block_lt_of_cell? w _ hw199_5)).trans hw199_5), ((HB.out.cell (World.block_lt_of_cell? w _ hw199_6)).trans hw199_6), ((HB.out.cell (World.block_lt_of_cell? w _ hw199_7)).trans hw199_7)⟩ (fun hHeld => ?_)
              clear hK K
              refine norm_ (a' := ?_) ?_ ?_
              rotate_left
              ·show Act.put _ (some 62) _ = _
               simp only [Act.put, List.setIfInBounds_toArray, List.set_cons_zero, List.set_cons_succ, i64_w, i32_w]
               rfl
              refine pure_ (i := 12) (N := some 8) (v := ?_) (a' := ?_) #[true, true, true, true, true, true, true, true, true, true, true, true, true] rfl rfl (any_of HT_.out (by kernel_rfl)) (fun _ _ _ h => h) (Or.inl ⟨by rfl, ?_⟩) ?_ ?_
              rotate_left
              ·intro w'
               go_simp
               with_reducible rfl
              rotate_left
              ·simp only [Act.put, List.setIfInBounds_toArray, List.set_cons_zero, List.set_cons_succ, i64_w, i32_w]
               rfl
              refine done_ (done_of HT_.out (by kernel_rfl)) ?_
              try go_wp2
              go_roundg k3
              case measure => have := HJ4.out; have := HJ28.out; have := HK3.out; omega
              case rel => exact ⟨(wrap64 (x7_3 + 1)), (x189000_3), (x189001_3), (x189002_3), kr, H', ⟨by have := HJ4.out; have := HJ28.out; have := HK3.out; omega⟩, ⟨kb BK187⟩, ⟨kb BK188⟩, ⟨kb BK190⟩, ⟨kB3 HB GE187 GE188 GE190⟩⟩
             ·rw [if_neg c46] at H
              have c46b0 : (t200 == 0) = false := beq_eq_false_iff_ne.mpr c46
              have c46b1 : (t200 != 0) = true := bne_iff_ne.mpr c46
              replace H := Option.bind_eq_some_iff.mp H
              obtain ⟨⟨t201, t202, t203, t204⟩, A520, H⟩ := H
              replace H : (some (t201, t202, t203, t204)) = some (r1, r2, r3, r4) := H
              have A52 := Aside0.mk A520
              clear A520
              simp only [Option.some.injEq, Prod.mk.injEq] at H
              obtain ⟨rfl, rfl, rfl, rfl⟩ := H
              have hnb53 := NB190_187.out
              have hnc53 := NB187_190.out
              have hnb54 := NB190_188.out
              have hnc54 := NB188_190.out
              have hcz55 := blk2 (w := wr) BK190.out
              try go_wp2
              have n0_ := Aside0.mk (blk_drew BK187.out)
              have n1_ := Aside0.mk (blk_drew BK188.out)
              have n2_ := Aside0.mk (blk_drew BK190.out)
              have n3_ := Aside0.mk (below_drew1 HB.out)
              clear BK187
              clear BK188
              clear BK190
              clear HB
              have BK187 := n0_
              have BK188 := n1_
              have BK190 := n2_
              have HB := n3_
              clear n0_ n1_ n2_ n3_
              have p199 : 0 ≤ (x7_3 : Int) := of_decide_eq_true ka
              have q199 : x7_3 < (((rd_T36 l0_4 a1).f1).length : Int) := of_decide_eq_true ka
              obtain ⟨ad199, A199_4, c199_4, e199, hx199_0, hx199_1, hx199_2, hx199_3, hx199_4, hx199_5, hx199_6, hx199_7, hl199_4, hi199_4⟩ := at_T66 HR189_1.out x7_3 p199 q199
              have hw199_7 := hx199_7
              have hw199_6 := hx199_6
              have hw199_5 := hx199_5
              have hw199_4 := hx199_4
              have hw199_3 := hx199_3
              have hw199_2 := hx199_2
              have hw199_1 := hx199_1
              have hw199_0 := hx199_0
              cases e199
              replace hx199_0 := (HB.out.cell (World.block_lt_of_cell? w _ hx199_0)).trans hx199_0
              replace hx199_1 := (HB.out.cell (World.block_lt_of_cell? w _ hx199_1)).trans hx199_1
              replace hx199_2 := (HB.out.cell (World.block_lt_of_cell? w _ hx199_2)).trans hx199_2
              replace hx199_3 := (HB.out.cell (World.block_lt_of_cell? w _ hx199_3)).trans hx199_3
              replace hx199_4 := (HB.out.cell (World.block_lt_of_cell? w _ hx199_4)).trans hx199_4
              replace hx199_5 := (HB.out.cell (World.block_lt_of_cell? w _ hx199_5)).trans hx199_5
              replace hx199_6 := (HB.out.cell (World.block_lt_of_cell? w _ hx199_6)).trans hx199_6
              replace hx199_7 := (HB.out.cell (World.block_lt_of_cell? w _ hx199_7)).trans hx199_7
              have HR199_4 := Aside0.mk hi199_4
              have HC199_4 := Aside0.mk hl199_4
              clear hi199_4 hl199_4
              replace p199 := eq_true p199
              replace q199 := eq_true q199
              refine start_ (n := 13) (S := fun w' => w'.cell? ⟨gb190, 0, none⟩ = some (.int .i64 ((rd_T36 l0_4 a1).f0)) ∧ w'.cell? ⟨gb190, 1, none⟩ = some (.slice (some ad199) ((rd_T36 l0_4 a1).f1).length c189_1) ∧ w'.cell? ⟨gb187, 0, none⟩ = some (.string a0_0) ∧ w'.cell? ⟨gb187, 1, none⟩ = some (.slice A0_1 l0_1.length c0_1) ∧ w'.cell? ⟨gb187, 2, none⟩ = some (.int .i64 a0_2) ∧ w'.cell? ⟨gb187, 3, none⟩ = some (.slice A0_3 l0_3.length c0_3) ∧ w'.cell? ⟨gb187, 4, none⟩ = some (.slice (some ad189) l0_4.length c0_4) ∧ w'.cell? (ad199.add ((x7_3).toNat * 8)) = some (.int .u8 ((rd_T66 ((rd_T36 l0_4 a1).f1) x7_3).f0)) ∧ w'.cell? ⟨(ad199.add ((x7_3).toNat * 8)).block, (ad199.add ((x7_3).toNat * 8)).off + 1, none⟩ = some (.int .i64 ((rd_T66 ((rd_T36 l0_4 a1).f1) x7_3).f1)) ∧ w'.cell? ⟨(ad199.add ((x7_3).toNat * 8)).block, (ad199.add ((x7_3).toNat * 8)).off + 2, none⟩ = some (.int .i64 ((rd_T66 ((rd_T36 l0_4 a1).f1) x7_3).f2)) ∧ w'.cell? ⟨(ad199.add ((x7_3).toNat * 8)).block, (ad199.add ((x7_3).toNat * 8)).off + 3, none⟩ = some (.float .f64 ((rd_T66 ((rd_T36 l0_4 a1).f1) x7_3).f3)) ∧ w'.cell? ⟨(ad199.add ((x7_3).toNat * 8)).block, (ad199.add ((x7_3).toNat * 8)).off + 4, none⟩ = some (.slice A199_4 ((rd_T66 ((rd_T36 l0_4 a1).f1) x7_3).f4).length c199_4) ∧ w'.cell? ⟨(ad199.add ((x7_3).toNat * 8)).block, (ad199.add ((x7_3).toNat * 8)).off + 5, none⟩ = some (.int .u8 ((rd_T66 ((rd_T36 l0_4 a1).f1) x7_3).f5)) ∧ w'.cell? ⟨(ad199.add ((x7_3).toNat * 8)).block, (ad199.add ((x7_3).toNat * 8)).off + 6, none⟩ = some (.int .i64 ((rd_T66 ((rd_T36 l0_4 a1).f1) x7_3).f6)) ∧ w'.cell? ⟨(ad199.add ((x7_3).toNat * 8)).block, (ad199.add ((x7_3).toNat * 8)).off + 7, none⟩ = some (.int .i64 ((rd_T66 ((rd_T36 l0_4 a1).f1) x7_3).f7))) (ds := []) #[false, false, false, false, false, false, false, false, false, false, false, false, false] (by kernel_rfl) rfl rfl ⟨(blk_cell BK190.out 0).trans rfl, (blk_cell BK190.out 1).trans rfl, (blk_cell BK187.out 0).trans rfl, (blk_cell BK187.out 1).trans rfl, (blk_cell BK187.out 2).trans rfl, (blk_cell BK187.out 3).trans rfl, (blk_cell BK187.out 4).trans rfl, ((HB.out.cell (World.block_lt_of_cell? w _ hw199_0)).trans hw199_0), ((HB.out.cell (World.block_lt_of_cell? w _ hw199_1)).trans hw199_1), ((HB.out.cell (World.block_lt_of_cell? w _ hw199_2)).trans hw199_2), ((HB.out.cell (World.block_lt_of_cell? w _ hw199_3)).trans hw199_3), ((HB.out.cell (World.block_lt_of_cell? w _ hw199_4)).trans hw199_4), ((HB.out.cell (World.block_lt_of_cell? w _ hw199_5)).trans hw199_5), ((HB.out.cell (World.block_lt_of_cell? w _ hw199_6)).trans hw199_6), ((HB.out.cell (World.block_lt_of_cell? w _ hw199_7)).trans hw199_7)⟩ (fun hHeld => ?_); refine with_tabW thicketref08_tree.tab9 thicketref08_tree.bits9 (fun HT_ HW_ => ?_)
              generalize wr.drew = w56 at BK187 BK188 BK190 HB HR199_4 hx199_0 hx199_1 hx199_2 hx199_3 hx199_4 hx199_5 hx199_6 hx199_7 hHeld ⊢
              refine pure_ (i := 0) (N := some 51) (v := ?_) (a' := ?_) #[true, false, false, false, false, false, false, false, false, false, false, false, false] rfl rfl (any_of HT_.out (by kernel_rfl)) (fun _ _ _ h => h) (Or.inl ⟨by rfl, ?_⟩) ?_ ?_
              rotate_left
              ·intro w'
               go_simp
               with_reducible rfl
              rotate_left
              ·simp only [Act.put, List.setIfInBounds_toArray, List.set_cons_zero, List.set_cons_succ, i64_w, i32_w]
               rfl
              refine pure_ (i := 2) (N := some 53) (v := ?_) (a' := ?_) #[true, false, true, false, false, false, false, false, false, false, false, false, false] rfl rfl (any_of HT_.out (by kernel_rfl)) (fun _ _ _ h => h) (Or.inl ⟨by rfl, ?_⟩) ?_ ?_
              rotate_left
              ·intro w'
               go_simp
               with_reducible rfl
              rotate_left
              ·simp only [Act.put, List.setIfInBounds_toArray, List.set_cons_zero, List.set_cons_succ, i64_w, i32_w]
               rfl
              refine pure_ (i := 5) (N := some 56) (v := ?_) (a' := ?_) #[true, false, true, false, false, true, false, false, false, false, false, false, false] rfl rfl (any_of HT_.out (by kernel_rfl)) (fun _ _ _ h => h) (Or.inl ⟨by rfl, ?_⟩) ?_ ?_
              rotate_left
              ·intro w'
               go_simp
               with_reducible rfl
              rotate_left
              ·simp only [Act.put, List.setIfInBounds_toArray, List.set_cons_zero, List.set_cons_succ, i64_w, i32_w]
               rfl
              refine pure_ (i := 8) (N := some 59) (v := ?_) (a' := ?_) #[true, false, true, false, false, true, false, false, true, false, false, false, false] rfl rfl (any_of HT_.out (by kernel_rfl)) (fun _ _ _ h => h) (Or.inl ⟨by rfl, ?_⟩) ?_ ?_
              rotate_left
              ·intro w'
               go_simp
               with_reducible rfl
              rotate_left
              ·simp only [Act.put, List.setIfInBounds_toArray, List.set_cons_zero, List.set_cons_succ, i64_w, i32_w]
               rfl
              refine take_ (i := 1) (N := some 52) (v := ?_) (a' := ?_) #[true, true, true, false, false, true, false, false, true, false, false, false, false] rfl rfl (take_ofW HT_.out HW_.out (by kernel_rfl)) (fun _ _ _ h => h) (Or.inl ⟨by rfl, ?_⟩) hHeld ?_ ?_
              rotate_left
              ·rintro w' ⟨s0, s1, s2, s3, s4, s5, s6, s7, s8, s9, s10, s11, s12, s13, s14⟩
               go_simp
               with_reducible rfl
              rotate_left
              ·simp only [Act.put, List.setIfInBounds_toArray, List.set_cons_zero, List.set_cons_succ, i64_w, i32_w]
               rfl
              refine pure_ (i := 3) (N := some 54) (v := ?_) (a' := ?_) #[true, true, true, true, false, true, false, false, true, false, false, false, false] rfl rfl (any_of HT_.out (by kernel_rfl)) (fun _ _ _ h => h) (Or.inl ⟨by rfl, ?_⟩) ?_ ?_
              rotate_left
              ·intro w'
               go_simp
               with_reducible rfl
              rotate_left
              ·simp only [Act.put, List.setIfInBounds_toArray, List.set_cons_zero, List.set_cons_succ, i64_w, i32_w]
               rfl
              refine take_ (i := 4) (N := some 55) (v := ?_) (a' := ?_) #[true, true, true, true, true, true, false, false, true, false, false, false, false] rfl rfl (take_ofW HT_.out HW_.out (by kernel_rfl)) (fun _ _ _ h => h) (Or.inl ⟨by rfl, ?_⟩) hHeld ?_ ?_
              rotate_left
              ·rintro w' ⟨s0, s1, s2, s3, s4, s5, s6, s7, s8, s9, s10, s11, s12, s13, s14⟩
               go_simp
               with_reducible rfl
              rotate_left
              ·simp only [Act.put, List.setIfInBounds_toArray, List.set_cons_zero, List.set_cons_succ, i64_w, i32_w]
               rfl
              refine take_ (i := 6) (N := some 57) (v := ?_) (a' := ?_) #[true, true, true, true, true, true, true, false, true, false, false, false, false] rfl rfl (take_ofW HT_.out HW_.out (by kernel_rfl)) (fun _ _ _ h => h) (Or.inl ⟨by rfl, ?_⟩) hHeld ?_ ?_
              rotate_left
              ·rintro w' ⟨s0, s1, s2, s3, s4, s5, s6, s7, s8, s9, s10, s11, s12, s13, s14⟩
               go_simp
               with_reducible rfl
              rotate_left
              ·simp only [Act.put, List.setIfInBounds_toArray, List.set_cons_zero, List.set_cons_succ, i64_w, i32_w]
               rfl
              refine pure_ (i := 7) (N := some 58) (v := ?_) (a' := ?_) #[true, true, true, true, true, true, true, true, true, false, false, false, false] rfl rfl (any_of HT_.out (by kernel_rfl)) (fun _ _ _ h => h) (Or.inl ⟨by rfl, ?_⟩) ?_ ?_
              rotate_left
              ·intro w'
               go_simp
               with_reducible rfl
              rotate_left
              ·simp only [Act.put, List.setIfInBounds_toArray, List.set_cons_zero, List.set_cons_succ, i64_w, i32_w]
               rfl
              refine take_ (i := 9) (N := some 60) (v := ?_) (a' := ?_) #[true, true, true, true, true, true, true, true, true, true, false, false, false] rfl rfl (take_ofW HT_.out HW_.out (by kernel_rfl)) (fun _ _ _ h => h) (Or.inl ⟨by rfl, ?_⟩) hHeld ?_ ?_
              rotate_left
              ·rintro w' ⟨s0, s1, s2, s3, s4, s5, s6, s7, s8, s9, s10, s11, s12, s13, s14⟩
               go_simp
               with_reducible rfl
              rotate_left
              ·simp only [Act.put, List.setIfInBounds_toArray, List.set_cons_zero, List.set_cons_succ, i64_w, i32_w]
               rfl
              refine pure_ (i := 10) (N := some 61) (v := ?_) (a' := ?_) #[true, true, true, true, true, true, true, true, true, true, true, false, false] rfl rfl (any_of HT_.out (by kernel_rfl)) (fun _ _ _ h => h) (Or.inl ⟨by rfl, ?_⟩) ?_ ?_
              rotate_left
              ·intro w'
               go_simp
               with_reducible rfl
              rotate_left
              ·simp only [Act.put, List.setIfInBounds_toArray, List.set_cons_zero, List.set_cons_succ, i64_w, i32_w]
               rfl
              refine one_ (i := 11) (N := some 62) #[true, true, true, true, true, true, true, true, true, true, true, true, false] rfl rfl (one_of HT_.out (by kernel_rfl)) (by decide) (fun K hK => ?_)
              refine goes_ Tryd.func31 (by kernel_rfl) rfl #[.agg #[.int .u8 ((rd_T66 ((rd_T36 l0_4 a1).f1) x7_3).f0), .int .i64 ((rd_T66 ((rd_T36 l0_4 a1).f1) x7_3).f1), .int .i64 ((rd_T66 ((rd_T36 l0_4 a1).f1) x7_3).f2), .float .f64 ((rd_T66 ((rd_T36 l0_4 a1).f1) x7_3).f3), .slice A199_4 ((rd_T66 ((rd_T36 l0_4 a1).f1) x7_3).f4).length c199_4, .int .u8 ((rd_T66 ((rd_T36 l0_4 a1).f1) x7_3).f5), .int .i64 ((rd_T66 ((rd_T36 l0_4 a1).f1) x7_3).f6), .int .i64 ((rd_T66 ((rd_T36 l0_4 a1).f1) x7_3).f7)], .int .i64 (l0_1.length : Int), .int .i64 (((rd_T36 l0_4 a1).f1).length : Int)] (by rfl) rfl rfl (by (try simp only [List.map_toArray, List.map_cons, List.map_nil]); first | done | rfl | (simp only [List.length_drop, List.length_take]; rfl)) ?_
              with_reducible refine (thicketref08_node.calls k3 ((rd_T66 ((rd_T36 l0_4 a1).f1) x7_3).f0) ((rd_T66 ((rd_T36 l0_4 a1).f1) x7_3).f1) ((rd_T66 ((rd_T36 l0_4 a1).f1) x7_3).f2) ((rd_T66 ((rd_T36 l0_4 a1).f1) x7_3).f3) _ _ ((rd_T66 ((rd_T36 l0_4 a1).f1) x7_3).f4) ((rd_T66 ((rd_T36 l0_4 a1).f1) x7_3).f5) ((rd_T66 ((rd_T36 l0_4 a1).f1) x7_3).f6) ((rd_T66 ((rd_T36 l0_4 a1).f1) x7_3).f7) (l0_1.length : Int) (((rd_T36 l0_4 a1).f1).length : Int) t200 _ ?side1 ?side2 A45.out).mono ?_
              (case side1 => repeat (first | exact (Kd.C_below HR199_4.out HB.out) | (with_reducible refine Kd.C_alloc ?_ _) | (with_reducible refine Kd.C_drewN ?_ _) | (with_reducible refine Kd.C_drew ?_)))
              (case side2 => exact HC199_4.out)
              rintro e w57 ⟨rfl, hb⟩
              refine ⟨_, rfl, ?_⟩
              have n0_ := Aside0.mk (blk_below (g := gb187) (o := .cells #[.string a0_0, .slice A0_1 l0_1.length c0_1, .int .i64 a0_2, .slice A0_3 l0_3.length c0_3, .slice (some ad189) l0_4.length c0_4] 26 (0, 0)) (kb BK187) hb)
              have n1_ := Aside0.mk (blk_below (g := gb188) (o := .cells #[.int .i64 x189000_3, .int .i64 x189001_3, .int .i64 x189002_3] 30 (0, 0)) (kb BK188) hb)
              have n2_ := Aside0.mk (blk_below (g := gb190) (o := .cells #[.int .i64 ((rd_T36 l0_4 a1).f0), .slice (some ad199) ((rd_T36 l0_4 a1).f1).length c189_1] 36 (0, 0)) (kb BK190) hb)
              have n3_ := Aside0.mk (below_step (kB3 HB GE187 GE188 GE190) hb)
              clear BK187
              clear BK188
              clear BK190
              clear HB
              have BK187 := n0_
              have BK188 := n1_
              have BK190 := n2_
              have HB := n3_
              clear n0_ n1_ n2_ n3_
              (try clear hb)
              (try clear hb2)
              (try clear hk)
              (try clear hi)
              refine hK.out _ _ ⟨(blk_cell BK190.out 0).trans rfl, (blk_cell BK190.out 1).trans rfl, (blk_cell BK187.out 0).trans rfl, (blk_cell BK187.out 1).trans rfl, (blk_cell BK187.out 2).trans rfl, (blk_cell BK187.out 3).trans rfl, (blk_cell BK187.out 4).trans rfl, ((HB.out.cell (World.block_lt_of_cell? w _ hw199_0)).trans hw199_0), ((HB.out.cell (World.block_lt_of_cell? w _ hw199_1)).trans hw199_1), ((HB.out.cell (World.block_lt_of_cell? w _ hw199_2)).trans hw199_2), ((HB.out.cell (World.block_lt_of_cell? w _ hw199_3)).trans hw199_3), ((HB.out.cell (World.block_lt_of_cell? w _ hw199_4)).trans hw199_4), ((HB.out.cell (World.block_lt_of_cell? w _ hw199_5)).trans hw199_5), ((HB.out.cell (World.block_lt_of_cell? w _ hw199_6)).trans hw199_6), ((HB.out.cell (World.block_lt_of_cell? w _ hw199_7)).trans hw199_7)⟩ (fun hHeld => ?_)
              clear hK K
              refine norm_ (a' := ?_) ?_ ?_
              rotate_left
              ·show Act.put _ (some 62) _ = _
               simp only [Act.put, List.setIfInBounds_toArray, List.set_cons_zero, List.set_cons_succ, i64_w, i32_w]
               rfl
              refine pure_ (i := 12) (N := some 8) (v := ?_) (a' := ?_) #[true, true, true, true, true, true, true, true, true, true, true, true, true] rfl rfl (any_of HT_.out (by kernel_rfl)) (fun _ _ _ h => h) (Or.inl ⟨by rfl, ?_⟩) ?_ ?_
              rotate_left
              ·intro w'
               go_simp
               with_reducible rfl
              rotate_left
              ·simp only [Act.put, List.setIfInBounds_toArray, List.set_cons_zero, List.set_cons_succ, i64_w, i32_w]
               rfl
              refine done_ (done_of HT_.out (by kernel_rfl)) ?_
              try go_wp2_with (first | ((with_reducible refine gate_callee (f := 30) rfl ?_); refine goesL_ (some 68) rfl rfl Tryd.func30 (by kernel_rfl) rfl #[.int .i64 t200, .int .i64 a1, .int .i64 x7_3] rfl (by (try simp only [List.map_toArray, List.map_cons, List.map_nil]); first | done | rfl | (simp only [List.length_drop, List.length_take]; rfl)) ?_; (with_reducible refine (thicketref08_broken.calls t200 a1 x7_3 t201 t202 t203 t204 _ A52.out).mono ?_); rintro e w58 ⟨rfl, hb⟩; refine ⟨_, rfl, ?_⟩; have n0_ := Aside0.mk (blk_below (g := gb187) (o := .cells #[.string a0_0, .slice A0_1 l0_1.length c0_1, .int .i64 a0_2, .slice A0_3 l0_3.length c0_3, .slice (some ad189) l0_4.length c0_4] 26 (0, 0)) (kb BK187) hb); have n1_ := Aside0.mk (blk_below (g := gb188) (o := .cells #[.int .i64 x189000_3, .int .i64 x189001_3, .int .i64 x189002_3] 30 (0, 0)) (kb BK188) hb); have n2_ := Aside0.mk (blk_below (g := gb190) (o := .cells #[.int .i64 ((rd_T36 l0_4 a1).f0), .slice (some ad199) ((rd_T36 l0_4 a1).f1).length c189_1] 36 (0, 0)) (kb BK190) hb); have n3_ := Aside0.mk (below_step (kB3 HB GE187 GE188 GE190) hb); clear BK187; clear BK188; clear BK190; clear HB; have BK187 := n0_; have BK188 := n1_; have BK190 := n2_; have HB := n3_; clear n0_ n1_ n2_ n3_; (try clear hb); (try clear hb2); (try clear hk); (try clear hi); have hnb59 := NB188_187.out; have hnc59 := NB187_188.out; have hcz60 := blk3 (w := w58) BK188.out))
              refine bodyPost_ret (results_ct rfl _ _ gb188 30 #[.int .i64 t201, .int .i64 t202, .int .i64 t203] (0, 0) _ rfl (by (with_reducible repeat (first | refine blk_drewN ?_ _ | refine blk_drew ?_ | refine blk_alloc ?_ _)); refine blk_put (cs := #[.int .i64 t201, .int .i64 t202, .int .i64 x189002_3]) ?_ 2 _ rfl; (with_reducible repeat (first | refine blk_drewN ?_ _ | refine blk_drew ?_ | refine blk_alloc ?_ _)); refine blk_put (cs := #[.int .i64 t201, .int .i64 x189001_3, .int .i64 x189002_3]) ?_ 1 _ rfl; (with_reducible repeat (first | refine blk_drewN ?_ _ | refine blk_drew ?_ | refine blk_alloc ?_ _)); refine blk_put (cs := #[.int .i64 x189000_3, .int .i64 x189001_3, .int .i64 x189002_3]) ?_ 0 _ rfl; (with_reducible repeat (first | refine blk_drewN ?_ _ | refine blk_drew ?_ | refine blk_alloc ?_ _)); exact BK188.out) Tryd.underlying30 rfl (by kernel_rfl)) rfl ?_
              exact ⟨by first | rfl | (simp [errW_none, errW_some] <;> rfl) | (simp [*, errW_none, errW_some] <;> rfl), kB3 HB GE187 GE188 GE190⟩
            ·rw [if_neg c44] at H
             exact absurd H (by simp)
           ·rw [if_neg c43] at H
            have c43b0 : decide (x7_3 < (((rd_T36 l0_4 a1).f1).length : Int)) = false := decide_eq_false c43
            clear c43
            replace H := Option.bind_eq_some_iff.mp H
            obtain ⟨⟨t205, t206⟩, A610, H⟩ := H
            replace H : (if t205 = 0 then (some (0, 0, 0, false)) else ((thicketref08_broken.f 20 a1 t206).bind fun bt207 => (some (bt207.1, bt207.2.1, bt207.2.2.1, bt207.2.2.2)))) = some (r1, r2, r3, r4) := H
            have A61 := Aside0.mk A610
            clear A610
            by_cases c62 : t205 = 0
            ·rw [if_pos c62] at H
             have c62b0 : (t205 == 0) = true := beq_iff_eq.mpr c62
             have c62b1 : (t205 != 0) = false := bne_eq_false_iff_eq.mpr c62
             clear c62
             simp only [Option.some.injEq, Prod.mk.injEq] at H
             obtain ⟨rfl, rfl, rfl, rfl⟩ := H
             have hnb63 := NB190_187.out
             have hnc63 := NB187_190.out
             have hnb64 := NB190_188.out
             have hnc64 := NB188_190.out
             have hcz65 := blk2 (w := wr) BK190.out
             go_wp2_with (first | ((with_reducible refine gate_callee (f := 32) rfl ?_); refine goesL_ (some 73) rfl rfl Tryd.func32 (by kernel_rfl) rfl #[.agg #[.int .i64 ((rd_T36 l0_4 a1).f0), .slice A189_1 ((rd_T36 l0_4 a1).f1).length c189_1]] rfl (by (try simp only [List.map_toArray, List.map_cons, List.map_nil]); first | done | rfl | (simp only [List.length_drop, List.length_take]; rfl)) ?_; (with_reducible refine (thicketref07_Shape.calls k3 ((rd_T36 l0_4 a1).f0) _ _ ((rd_T36 l0_4 a1).f1) t205 t206 _ ?side1 ?side2 A61.out).mono ?_); (case side1 => repeat (first | exact (Kd.C_below HR189_1.out HB.out) | (with_reducible refine Kd.C_alloc ?_ _) | (with_reducible refine Kd.C_drewN ?_ _) | (with_reducible refine Kd.C_drew ?_))); (case side2 => exact HC189_1.out); rintro e w66 ⟨rfl, hb⟩; refine ⟨_, rfl, ?_⟩; have n0_ := Aside0.mk (blk_below (g := gb187) (o := .cells #[.string a0_0, .slice A0_1 l0_1.length c0_1, .int .i64 a0_2, .slice A0_3 l0_3.length c0_3, .slice (some ad189) l0_4.length c0_4] 26 (0, 0)) (kb BK187) hb); have n1_ := Aside0.mk (blk_below (g := gb188) (o := .cells #[.int .i64 x189000_3, .int .i64 x189001_3, .int .i64 x189002_3] 30 (0, 0)) (kb BK188) hb); have n2_ := Aside0.mk (blk_below (g := gb190) (o := .cells #[.int .i64 ((rd_T36 l0_4 a1).f0), .slice A189_1 ((rd_T36 l0_4 a1).f1).length c189_1] 36 (0, 0)) (kb BK190) hb); have n3_ := Aside0.mk (below_step (kB3 HB GE187 GE188 GE190) hb); clear BK187; clear BK188; clear BK190; clear HB; have BK187 := n0_; have BK188 := n1_; have BK190 := n2_; have HB := n3_; clear n0_ n1_ n2_ n3_; (try clear hb); (try clear hb2); (try clear hk); (try clear hi); have hnb67 := NB188_187.out; have hnc67 := NB187_188.out; have hcz68 := blk3 (w := w66) BK188.out))
             refine bodyPost_ret (results_ct rfl _ _ gb188 30 #[.int .i64 0, .int .i64 0, .int .i64 0] (0, 0) _ rfl (by (with_reducible repeat (first | refine blk_drewN ?_ _ | refine blk_drew ?_ | refine blk_alloc ?_ _)); refine blk_put (cs := #[.int .i64 0, .int .i64 0, .int .i64 x189002_3]) ?_ 2 _ rfl; (with_reducible repeat (first | refine blk_drewN ?_ _ | refine blk_drew ?_ | refine blk_alloc ?_ _)); refine blk_put (cs := #[.int .i64 0, .int .i64 x189001_3, .int .i64 x189002_3]) ?_ 1 _ rfl; (with_reducible repeat (first | refine blk_drewN ?_ _ | refine blk_drew ?_ | refine blk_alloc ?_ _)); refine blk_put (cs := #[.int .i64 x189000_3, .int .i64 x189001_3, .int .i64 x189002_3]) ?_ 0 _ rfl; (with_reducible repeat (first | refine blk_drewN ?_ _ | refine blk_drew ?_ | refine blk_alloc ?_ _)); exact BK188.out) Tryd.underlying30 rfl (by kernel_rfl)) rfl ?_
             exact ⟨by first | rfl | (simp [errW_none, errW_some] <;> rfl) | (simp [*, errW_none, errW_some] <;> rfl), kB3 HB GE187 GE188 GE190⟩
            ·rw [if_neg c62] at H
             have c62b0 : (t205 == 0) = false := beq_eq_false_iff_ne.mpr c62
             have c62b1 : (t205 != 0) = true := bne_iff_ne.mpr c62
             replace H := Option.bind_eq_some_iff.mp H
             obtain ⟨⟨t207, t208, t209, t210⟩, A690, H⟩ := H
             replace H : (some (t207, t208, t209, t210)) = some (r1, r2, r3, r4) := H
             have A69 := Aside0.mk A690
             clear A690
             simp only [Option.some.injEq, Prod.mk.injEq] at H
             obtain ⟨rfl, rfl, rfl, rfl⟩ := H
             have hnb70 := NB190_187.out
             have hnc70 := NB187_190.out
             have hnb71 := NB190_188.out
             have hnc71 := NB188_190.out
             have hcz72 := blk2 (w := wr) BK190.out
             go_wp2_with (first | ((with_reducible refine gate_callee (f := 32) rfl ?_); refine goesL_ (some 73) rfl rfl Tryd.func32 (by kernel_rfl) rfl #[.agg #[.int .i64 ((rd_T36 l0_4 a1).f0), .slice A189_1 ((rd_T36 l0_4 a1).f1).length c189_1]] rfl (by (try simp only [List.map_toArray, List.map_cons, List.map_nil]); first | done | rfl | (simp only [List.length_drop, List.length_take]; rfl)) ?_; (with_reducible refine (thicketref07_Shape.calls k3 ((rd_T36 l0_4 a1).f0) _ _ ((rd_T36 l0_4 a1).f1) t205 t206 _ ?side1 ?side2 A61.out).mono ?_); (case side1 => repeat (first | exact (Kd.C_below HR189_1.out HB.out) | (with_reducible refine Kd.C_alloc ?_ _) | (with_reducible refine Kd.C_drewN ?_ _) | (with_reducible refine Kd.C_drew ?_))); (case side2 => exact HC189_1.out); rintro e w73 ⟨rfl, hb⟩; refine ⟨_, rfl, ?_⟩; have n0_ := Aside0.mk (blk_below (g := gb187) (o := .cells #[.string a0_0, .slice A0_1 l0_1.length c0_1, .int .i64 a0_2, .slice A0_3 l0_3.length c0_3, .slice (some ad189) l0_4.length c0_4] 26 (0, 0)) (kb BK187) hb); have n1_ := Aside0.mk (blk_below (g := gb188) (o := .cells #[.int .i64 x189000_3, .int .i64 x189001_3, .int .i64 x189002_3] 30 (0, 0)) (kb BK188) hb); have n2_ := Aside0.mk (blk_below (g := gb190) (o := .cells #[.int .i64 ((rd_T36 l0_4 a1).f0), .slice A189_1 ((rd_T36 l0_4 a1).f1).length c189_1] 36 (0, 0)) (kb BK190) hb); have n3_ := Aside0.mk (below_step (kB3 HB GE187 GE188 GE190) hb); clear BK187; clear BK188; clear BK190; clear HB; have BK187 := n0_; have BK188 := n1_; have BK190 := n2_; have HB := n3_; clear n0_ n1_ n2_ n3_; (try clear hb); (try clear hb2); (try clear hk); (try clear hi)) | ((with_reducible refine gate_callee (f := 30) rfl ?_); refine goesL_ (some 80) rfl rfl Tryd.func30 (by kernel_rfl) rfl #[.int .i64 20, .int .i64 a1, .int .i64 t206] rfl (by (try simp only [List.map_toArray, List.map_cons, List.map_nil]); first | done | rfl | (simp only [List.length_drop, List.length_take]; rfl)) ?_; (with_reducible refine (thicketref08_broken.calls 20 a1 t206 t207 t208 t209 t210 _ A69.out).mono ?_); rintro e w74 ⟨rfl, hb⟩; refine ⟨_, rfl, ?_⟩; have n0_ := Aside0.mk (blk_below (g := gb187) (o := .cells #[.string a0_0, .slice A0_1 l0_1.length c0_1, .int .i64 a0_2, .slice A0_3 l0_3.length c0_3, .slice (some ad189) l0_4.length c0_4] 26 (0, 0)) (kb BK187) hb); have n1_ := Aside0.mk (blk_below (g := gb188) (o := .cells #[.int .i64 x189000_3, .int .i64 x189001_3, .int .i64 x189002_3] 30 (0, 0)) (kb BK188) hb); have n2_ := Aside0.mk (blk_below (g := gb190) (o := .cells #[.int .i64 ((rd_T36 l0_4 a1).f0), .slice A189_1 ((rd_T36 l0_4 a1).f1).length c189_1] 36 (0, 0)) (kb BK190) hb); have n3_ := Aside0.mk (below_step (kB3 HB GE187 GE188 GE190) hb); clear BK187; clear BK188; clear BK190; clear HB; have BK187 := n0_; have BK188 := n1_; have BK190 := n2_; have HB := n3_; clear n0_ n1_ n2_ n3_; (try clear hb); (try clear hb2); (try clear hk); (try clear hi); have hnb75 := NB188_187.out; have hnc75 := NB187_188.out; have hcz76 := blk3 (w := w74) BK188.out))
             refine bodyPost_ret (results_ct rfl _ _ gb188 30 #[.int .i64 t207, .int .i64 t208, .int .i64 t209] (0, 0) _ rfl (by (with_reducible repeat (first | refine blk_drewN ?_ _ | refine blk_drew ?_ | refine blk_alloc ?_ _)); refine blk_put (cs := #[.int .i64 t207, .int .i64 t208, .int .i64 x189002_3]) ?_ 2 _ rfl; (with_reducible repeat (first | refine blk_drewN ?_ _ | refine blk_drew ?_ | refine blk_alloc ?_ _)); refine blk_put (cs := #[.int .i64 t207, .int .i64 x189001_3, .int .i64 x189002_3]) ?_ 1 _ rfl; (with_reducible repeat (first | refine blk_drewN ?_ _ | refine blk_drew ?_ | refine blk_alloc ?_ _)); refine blk_put (cs := #[.int .i64 x189000_3, .int .i64 x189001_3, .int .i64 x189002_3]) ?_ 0 _ rfl; (with_reducible repeat (first | refine blk_drewN ?_ _ | refine blk_drew ?_ | refine blk_alloc ?_ _)); exact BK188.out) Tryd.underlying30 rfl (by kernel_rfl)) rfl ?_
             exact ⟨by first | rfl | (simp [errW_none, errW_some] <;> rfl) | (simp [*, errW_none, errW_some] <;> rfl), kB3 HB GE187 GE188 GE190⟩
  ·rw [if_neg c4] at H
   exact absurd H (by simp)
 ·rw [if_neg c3] at H
  exact absurd H (by simp)
end Go.Proofs.YtkemfbocojoagaaDoor.FAll
