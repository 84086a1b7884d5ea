-- written by fprint.sh, a program of ours over the kit's print: not by hand
import Derived.Test.YtpeiafamkajedaaDoorFAllx0
import Derived.Test.YtpeiafamkajedaaDoorFAllx4
namespace Go.Proofs.YtpeiafamkajedaaDoor.FAll
open Go.RowKit Go.Proofs.YtpeiafamkajedaaDoorW.PrintWords Go.Proofs.YtpeiafamkajedaaDoorW.PrintLast Go.Proofs.YtpeiafamkajedaaDoorW.PrintMore
attribute [local go_sem] feq_walk fne_walk flt_walk fle_walk fgt_walk fge_walk fint_walk fstore_walk run_f64bits max2_int min2_int max_two min_two max_three min_three max_four min_four   -- for this text's walks alone
set_option linter.unusedVariables false
set_option linter.unusedSimpArgs false
/-! ### thicketref07_Copy: function 8 -/
def thicketref07_Copy.l0 : Nat → List (S37) → List (S37) → Int → Int → ByteArray → List ByteArray → Int → List Int → List (S37) → Option (ByteArray × List ByteArray × Int × List Int × (List (S37)))
 | 0, _, _, _, _, _, _, _, _, _ => none
 | k + 1, x5, x21, x22, x23, x241000, x241001, x241002, x241003, x241004 => if x23 < x22 then (if 0 ≤ x23 then (if x23 < (x21.length : Int) then ((thicketref07_Nodes.f k ((rd_T37 x21 x23).f1)).bind fun t249 => (if x5.length < 4398046511104 then (thicketref07_Copy.l0 k (x5 ++ [(⟨(rd_T37 x21 x23).f0, t249⟩ : S37)]) x21 x22 (wrap64 (x23 + 1)) x241000 x241001 x241002 x241003 x241004) else (none))) else (none)) else (none)) else (some (x241000, x241001, x241002, x241003, x5))
def thicketref07_Copy.f (k : Nat) (a0_0 : ByteArray) (l0_1 : List ByteArray) (a0_2 : Int) (l0_3 : List Int) (l0_4 : List (S37)) : Option (ByteArray × List ByteArray × Int × List Int × (List (S37))) := if ([] : List ByteArray).length + l0_1.length < 8796093022208 then (if ([] : List Int).length + l0_3.length < 17592186044416 then (thicketref07_Copy.l0 k ([] : List (S37)) l0_4 (l0_4.length : Int) 0 a0_0 (([] : List ByteArray) ++ l0_1) a0_2 (([] : List Int) ++ l0_3) l0_4) else (none)) else (none)
theorem thicketref07_Copy.mono_l : ∀ k, (∀ y0 y1 y2 y3 y4 y5 y6 y7 y8, LeO (thicketref07_Copy.l0 k y0 y1 y2 y3 y4 y5 y6 y7 y8) (thicketref07_Copy.l0 (k + 1) y0 y1 y2 y3 y4 y5 y6 y7 y8))
 | 0 => fun _ _ _ _ _ _ _ _ _ r h => by simp [thicketref07_Copy.l0] at h
 | k + 1 => by
  have ih0 := thicketref07_Copy.mono_l k
  ·intro y0 y1 y2 y3 y4 y5 y6 y7 y8
   unfold thicketref07_Copy.l0
   repeat' first
   | (with_reducible exact ih0 _ _ _ _ _ _ _ _ _)
   | (with_reducible exact thicketref07_Nodes.mono _ _)
   | (with_reducible exact LeO.refl _)
   | (with_reducible exact LeO.none _)
   | (with_reducible refine LeO.ite ?_ ?_)
   | (with_reducible refine LeO.bind ?_ (fun _ => ?_))
   | exact ih0 _ _ _ _ _ _ _ _ _
   | exact thicketref07_Nodes.mono _ _
   | exact LeO.none _
   | refine LeO.ite ?_ ?_
   | refine LeO.bind ?_ (fun _ => ?_)
theorem thicketref07_Copy.mono : ∀ a0 a1 a2 a3 a4 k, LeO (thicketref07_Copy.f k a0 a1 a2 a3 a4) (thicketref07_Copy.f (k + 1) a0 a1 a2 a3 a4) := by
 intro a0 a1 a2 a3 a4 k
 have ih0 := thicketref07_Copy.mono_l k
 unfold thicketref07_Copy.f
 repeat' first
   | (with_reducible exact ih0 _ _ _ _ _ _ _ _ _)
   | (with_reducible exact thicketref07_Nodes.mono _ _)
   | (with_reducible exact LeO.refl _)
   | (with_reducible exact LeO.none _)
   | (with_reducible refine LeO.ite ?_ ?_)
   | (with_reducible refine LeO.bind ?_ (fun _ => ?_))
   | exact ih0 _ _ _ _ _ _ _ _ _
   | exact thicketref07_Nodes.mono _ _
   | exact LeO.none _
   | refine LeO.ite ?_ ?_
   | refine LeO.bind ?_ (fun _ => ?_)
def thicketref07_Copy.T10 : Bool × List (List Nat × List Nat) := (true, [([], []), ([], []), ([1], [1]), ([], []), ([3], [3]), ([4], [4]), ([2, 5], [2, 5]), ([6], [6]), ([0, 7, 5], [0, 7]), ([8, 8, 0, 1, 2, 3, 4, 5, 6, 7, 8], [0, 8])])
def thicketref07_Copy.B10 : List Nat := [0, 0, 2, 0, 8, 24, 62, 126, 255, 511]
theorem thicketref07_Copy.tab10 : rtab .any (opsOf Tryd.f8 10) = thicketref07_Copy.T10 := by kernel_rfl
theorem thicketref07_Copy.bits10 : waitsOk thicketref07_Copy.T10.2 thicketref07_Copy.B10 = true := by kernel_rfl
set_option maxHeartbeats 8000000 in
set_option maxRecDepth 100000 in
theorem thicketref07_Copy.calls (k : Nat) (a0_0 : ByteArray) (A0_1 : Option Addr) (c0_1 : Nat) (l0_1 : List ByteArray) (a0_2 : Int) (A0_3 : Option Addr) (c0_3 : Nat) (l0_3 : List Int) (A0_4 : Option Addr) (c0_4 : Nat) (l0_4 : List (S37)) (r1 : ByteArray) (r2 : List ByteArray) (r3 : Int) (r4 : List Int) (r5 : List (S37)) (w : World) (hr0_1 : Kd.C Kd.string w A0_1 l0_1.length l0_1) (hc0_1 : l0_1.length ≤ c0_1) (hr0_3 : Kd.C (Kd.int .i64) w A0_3 l0_3.length l0_3) (hc0_3 : l0_3.length ≤ c0_3) (hr0_4 : Kd.C k37 w A0_4 l0_4.length l0_4) (hc0_4 : l0_4.length ≤ c0_4) (h : thicketref07_Copy.f k a0_0 l0_1 a0_2 l0_3 l0_4 = some (r1, r2, r3, r4, r5)) :
  Calls Tryd.prog 8 #[.agg #[.string a0_0, .slice A0_1 l0_1.length c0_1, .int .i64 a0_2, .slice A0_3 l0_3.length c0_3, .slice A0_4 l0_4.length c0_4]] w fun e w' => ∃ v1_ v3_ v4_ : Value, e = .returned (.agg #[.string r1, v1_, .int .i64 r3, v3_, v4_]) ∧ Kd.R Kd.string 9 w' w.heap.size (fun _ => True) v1_ r2 ∧ Kd.R (Kd.int .i64) 2 w' w.heap.size (fun _ => True) v3_ r4 ∧ Kd.R k37 37 w' w.heap.size (fun _ => True) v4_ r5 ∧ Below w.heap.size w w' := by
 have hu26 := Tryd.underlying26
 have hu37 := Tryd.underlying37
 have HR0_1 := Aside0.mk hr0_1
 have HC0_1 := Aside0.mk hc0_1
 clear hr0_1 hc0_1
 have HR0_3 := Aside0.mk hr0_3
 have HC0_3 := Aside0.mk hc0_3
 clear hr0_3 hc0_3
 have HR0_4 := Aside0.mk hr0_4
 have HC0_4 := Aside0.mk hc0_4
 clear hr0_4 hc0_4
 have HB := Aside0.mk (Below.refl w.heap.size w)
 have H : (if ([] : List ByteArray).length + l0_1.length < 8796093022208 then (if ([] : List Int).length + l0_3.length < 17592186044416 then (thicketref07_Copy.l0 k ([] : List (S37)) l0_4 (l0_4.length : Int) 0 a0_0 (([] : List ByteArray) ++ l0_1) a0_2 (([] : List Int) ++ l0_3) l0_4) else (none)) else (none)) = some (r1, r2, r3, r4, r5) := h
 clear h
 by_cases c2 : ([] : List ByteArray).length + l0_1.length < 8796093022208
 ·rw [if_pos c2] at H
  have LMc2 := Aside0.mk c2
  clear c2
  obtain ⟨y241, hy241⟩ : ∃ y_ : List ByteArray, y_ = (([] : List ByteArray) ++ l0_1) := ⟨_, rfl⟩
  replace H : (if ([] : List Int).length + l0_3.length < 17592186044416 then (thicketref07_Copy.l0 k ([] : List (S37)) l0_4 (l0_4.length : Int) 0 a0_0 y241 a0_2 (([] : List Int) ++ l0_3) l0_4) else (none)) = some (r1, r2, r3, r4, r5) := by first | (rw [hy241]; with_reducible exact H) | (have H2_ := (Option.bind_some _ _).symm.trans H; rw [hy241]; with_reducible exact H2_) | (have H2_ := (Option.bind_some _ _).symm.trans H; with_reducible exact H2_) | with_reducible exact H | (rw [hy241]; exact H) | exact H
  have Ny241 := Aside0.mk hy241
  clear hy241
  by_cases c3 : ([] : List Int).length + l0_3.length < 17592186044416
  ·rw [if_pos c3] at H
   have LMc3 := Aside0.mk c3
   clear c3
   obtain ⟨y244, hy244⟩ : ∃ y_ : List Int, y_ = (([] : List Int) ++ l0_3) := ⟨_, rfl⟩
   replace H : (thicketref07_Copy.l0 k ([] : List (S37)) l0_4 (l0_4.length : Int) 0 a0_0 y241 a0_2 y244 l0_4) = some (r1, r2, r3, r4, r5) := by first | (rw [hy244]; with_reducible exact H) | (have H2_ := (Option.bind_some _ _).symm.trans H; rw [hy244]; with_reducible exact H2_) | (have H2_ := (Option.bind_some _ _).symm.trans H; with_reducible exact H2_) | with_reducible exact H | (rw [hy244]; exact H) | exact H
   have Ny244 := Aside0.mk hy244
   clear hy244
   have H' := Aside0.mk H
   clear H
   go_enter Tryd.func8, Tryd.ntmps8
   go_wp2_with (first | ((with_reducible refine gate_dst (N := 1) rfl ?_); refine box_event ?hg (N := 1) ?hd (cs := #[.string a0_0, .slice A0_1 l0_1.length c0_1, .int .i64 a0_2, .slice A0_3 l0_3.length c0_3, .slice A0_4 l0_4.length c0_4]) (t := 26) ?hr ?_; (case hd => rfl); (case hg => rfl); (case hr => first | (go_simp; done) | (go_simp; rfl)); intro gb238 hg w4 hbox hb; have n0_ := Aside0.mk (below_step (kB0 HB) hb); have n1_ := Aside0.mk (hbox); have n2_ := Aside0.mk ((kg hg (kB0 HB) : w.heap.size ≤ gb238)); have n3_ := Aside0.mk ((kg hg (kB0 HB) : w.heap.size ≤ gb238)); clear HB; have HB := n0_; have BK238 := n1_; have GW238 := n2_; have GE238 := n3_; clear n0_ n1_ n2_ n3_; clear hb hbox hg) | ((with_reducible refine gate_dst (N := 2) rfl ?_); refine box_event ?hg (N := 2) ?hd (cs := #[.string (⟨#[]⟩ : ByteArray), .slice none 0 0, .int .i64 0, .slice none 0 0, .slice none 0 0]) (t := 26) ?hr ?_; (case hd => rfl); (case hg => rfl); (case hr => first | (go_simp; done) | (go_simp; rfl)); intro gb239 hg w5 hbox hb; have n0_ := Aside0.mk (blk_below (g := gb238) (o := .cells #[.string a0_0, .slice A0_1 l0_1.length c0_1, .int .i64 a0_2, .slice A0_3 l0_3.length c0_3, .slice A0_4 l0_4.length c0_4] 26 (0, 0)) (kb BK238) hb); have n1_ := Aside0.mk (below_step (kB1 HB GE238) hb); have n2_ := Aside0.mk (hbox); have n3_ := Aside0.mk ((kg hg (kB1 HB GE238) : w.heap.size ≤ gb239)); have n4_ := Aside0.mk ((kg hg (kB1 HB GE238) : w.heap.size ≤ gb239)); have n5_ := Aside0.mk ((by rw [hg]; exact Nat.ne_of_lt (blk_lt (g := gb238) (o := .cells #[.string a0_0, .slice A0_1 l0_1.length c0_1, .int .i64 a0_2, .slice A0_3 l0_3.length c0_3, .slice A0_4 l0_4.length c0_4] 26 (0, 0)) (kb BK238)) : gb238 ≠ gb239)); have n6_ := Aside0.mk ((by rw [hg]; exact Nat.ne_of_gt (blk_lt (g := gb238) (o := .cells #[.string a0_0, .slice A0_1 l0_1.length c0_1, .int .i64 a0_2, .slice A0_3 l0_3.length c0_3, .slice A0_4 l0_4.length c0_4] 26 (0, 0)) (kb BK238)) : gb239 ≠ gb238)); clear BK238; clear HB; have BK238 := n0_; have HB := n1_; have BK239 := n2_; have GW239 := n3_; have GE239 := n4_; have NB238_239 := n5_; have NB239_238 := n6_; clear n0_ n1_ n2_ n3_ n4_ n5_ n6_; clear hb hbox hg; have hnb6 := NB238_239.out; have hnc6 := NB239_238.out; have hcz7 := blk5 (w := w5) BK238.out) | ((with_reducible refine gate_dst (N := 6) rfl ?_); refine box_event ?hg (N := 6) ?hd (cs := #[.string (⟨#[]⟩ : ByteArray), .slice none 0 0, .int .i64 0, .slice none 0 0, .slice none 0 0]) (t := 26) ?hr ?_; (case hd => rfl); (case hg => rfl); (case hr => first | (go_simp; done) | (go_simp; rfl)); intro gb240 hg w8 hbox hb; have n0_ := Aside0.mk (blk_below (g := gb238) (o := .cells #[.string a0_0, .slice A0_1 l0_1.length c0_1, .int .i64 a0_2, .slice A0_3 l0_3.length c0_3, .slice A0_4 l0_4.length c0_4] 26 (0, 0)) (kb BK238) hb); have n1_ := Aside0.mk (blk_below (g := gb239) (o := .cells #[.string (⟨#[]⟩ : ByteArray), .slice none 0 0, .int .i64 0, .slice none 0 0, .slice none 0 0] 26 (0, 0)) (kb BK239) hb); have n2_ := Aside0.mk (below_step (kB2 HB GE238 GE239) hb); have n3_ := Aside0.mk (hbox); have n4_ := Aside0.mk ((kg hg (kB2 HB GE238 GE239) : w.heap.size ≤ gb240)); have n5_ := Aside0.mk ((kg hg (kB2 HB GE238 GE239) : w.heap.size ≤ gb240)); have n6_ := Aside0.mk ((by rw [hg]; exact Nat.ne_of_lt (blk_lt (g := gb238) (o := .cells #[.string a0_0, .slice A0_1 l0_1.length c0_1, .int .i64 a0_2, .slice A0_3 l0_3.length c0_3, .slice A0_4 l0_4.length c0_4] 26 (0, 0)) (kb BK238)) : gb238 ≠ gb240)); have n7_ := Aside0.mk ((by rw [hg]; exact Nat.ne_of_gt (blk_lt (g := gb238) (o := .cells #[.string a0_0, .slice A0_1 l0_1.length c0_1, .int .i64 a0_2, .slice A0_3 l0_3.length c0_3, .slice A0_4 l0_4.length c0_4] 26 (0, 0)) (kb BK238)) : gb240 ≠ gb238)); have n8_ := Aside0.mk ((by rw [hg]; exact Nat.ne_of_lt (blk_lt (g := gb239) (o := .cells #[.string (⟨#[]⟩ : ByteArray), .slice none 0 0, .int .i64 0, .slice none 0 0, .slice none 0 0] 26 (0, 0)) (kb BK239)) : gb239 ≠ gb240)); have n9_ := Aside0.mk ((by rw [hg]; exact Nat.ne_of_gt (blk_lt (g := gb239) (o := .cells #[.string (⟨#[]⟩ : ByteArray), .slice none 0 0, .int .i64 0, .slice none 0 0, .slice none 0 0] 26 (0, 0)) (kb BK239)) : gb240 ≠ gb239)); clear BK238; clear BK239; clear HB; have BK238 := n0_; have BK239 := n1_; have HB := n2_; have BK240 := n3_; have GW240 := n4_; have GE240 := n5_; have NB238_240 := n6_; have NB240_238 := n7_; have NB239_240 := n8_; have NB240_239 := n9_; clear n0_ n1_ n2_ n3_ n4_ n5_ n6_ n7_ n8_ n9_; clear hb hbox hg; have hnb9 := NB240_238.out; have hnc9 := NB238_240.out; have hnb10 := NB240_239.out; have hnc10 := NB239_240.out; have hcz11 := blk5 (w := w8) BK240.out; have hcz12 := blk5 (w := w8) BK238.out) | ((with_reducible refine gate_builtin (b := .append) (xs := #[.tmp 10, .tmp 12]) rfl ?_); at_builtin; refine Kd.R_append_rows Kd.string (w0 := w) w.heap.size rfl (.tmp 10) (.tmp 12) 22 9 (.string ⟨#[]⟩) 16 rfl Tryd.underlying22 info9 rfl (by decide) (by omega) (.slice none 0 0) ([] : List ByteArray) l0_1 _ _ _ (fun _ => True) (fun _ => False) rfl rfl ?aO ?aR (fun _ _ h => h) (fun _ h => h.elim) ?aF ?aB ?aS ?aL ?_; (case aR => exact Kd.C_below HR0_1.out (kB3 HB GE238 GE239 GE240)); (case aB => exact (kB3 HB GE238 GE239 GE240)); (case aF => exact (fun _ _ => trivial)); (case aO => exact ((Kd.R_nil _ _ _ _ (fun _ => True)))); (case aS => exact (below_size (kB3 HB GE238 GE239 GE240))); (case aL => have := LMc2.out; omega); intro v242 w13 ho hb hg hat; rw [← Ny241.out] at ho; have n0_ := Aside0.mk (blk_grown (g := gb238) (o := .cells #[.string a0_0, .slice A0_1 l0_1.length c0_1, .int .i64 a0_2, .slice A0_3 l0_3.length c0_3, .slice A0_4 l0_4.length c0_4] 26 (0, 0)) (by (with_reducible repeat (first | refine blk_drewN ?_ _ | refine blk_drew ?_ | refine blk_alloc ?_ _)); refine blk_far ?_ NB238_240.out _; (with_reducible repeat (first | refine blk_drewN ?_ _ | refine blk_drew ?_ | refine blk_alloc ?_ _)); refine blk_far ?_ NB238_240.out _; (with_reducible repeat (first | refine blk_drewN ?_ _ | refine blk_drew ?_ | refine blk_alloc ?_ _)); refine blk_far ?_ NB238_240.out _; (with_reducible repeat (first | refine blk_drewN ?_ _ | refine blk_drew ?_ | refine blk_alloc ?_ _)); refine blk_far ?_ NB238_240.out _; (with_reducible repeat (first | refine blk_drewN ?_ _ | refine blk_drew ?_ | refine blk_alloc ?_ _)); refine blk_far ?_ NB238_240.out _; (with_reducible repeat (first | refine blk_drewN ?_ _ | refine blk_drew ?_ | refine blk_alloc ?_ _)); exact BK238.out) hg (by simp [Value.ownBlock])); have n1_ := Aside0.mk (blk_grown (g := gb239) (o := .cells #[.string (⟨#[]⟩ : ByteArray), .slice none 0 0, .int .i64 0, .slice none 0 0, .slice none 0 0] 26 (0, 0)) (by (with_reducible repeat (first | refine blk_drewN ?_ _ | refine blk_drew ?_ | refine blk_alloc ?_ _)); refine blk_far ?_ NB239_240.out _; (with_reducible repeat (first | refine blk_drewN ?_ _ | refine blk_drew ?_ | refine blk_alloc ?_ _)); refine blk_far ?_ NB239_240.out _; (with_reducible repeat (first | refine blk_drewN ?_ _ | refine blk_drew ?_ | refine blk_alloc ?_ _)); refine blk_far ?_ NB239_240.out _; (with_reducible repeat (first | refine blk_drewN ?_ _ | refine blk_drew ?_ | refine blk_alloc ?_ _)); refine blk_far ?_ NB239_240.out _; (with_reducible repeat (first | refine blk_drewN ?_ _ | refine blk_drew ?_ | refine blk_alloc ?_ _)); refine blk_far ?_ NB239_240.out _; (with_reducible repeat (first | refine blk_drewN ?_ _ | refine blk_drew ?_ | refine blk_alloc ?_ _)); exact BK239.out) hg (by simp [Value.ownBlock])); have n2_ := Aside0.mk (blk_grown (g := gb240) (o := .cells #[.string a0_0, .slice A0_1 l0_1.length c0_1, .int .i64 a0_2, .slice A0_3 l0_3.length c0_3, .slice A0_4 l0_4.length c0_4] 26 (0, 0)) (by (with_reducible repeat (first | refine blk_drewN ?_ _ | refine blk_drew ?_ | refine blk_alloc ?_ _)); refine blk_put (cs := #[.string a0_0, .slice A0_1 l0_1.length c0_1, .int .i64 a0_2, .slice A0_3 l0_3.length c0_3, .slice none 0 0]) ?_ 4 _ rfl; (with_reducible repeat (first | refine blk_drewN ?_ _ | refine blk_drew ?_ | refine blk_alloc ?_ _)); refine blk_put (cs := #[.string a0_0, .slice A0_1 l0_1.length c0_1, .int .i64 a0_2, .slice none 0 0, .slice none 0 0]) ?_ 3 _ rfl; (with_reducible repeat (first | refine blk_drewN ?_ _ | refine blk_drew ?_ | refine blk_alloc ?_ _)); refine blk_put (cs := #[.string a0_0, .slice A0_1 l0_1.length c0_1, .int .i64 0, .slice none 0 0, .slice none 0 0]) ?_ 2 _ rfl; (with_reducible repeat (first | refine blk_drewN ?_ _ | refine blk_drew ?_ | refine blk_alloc ?_ _)); refine blk_put (cs := #[.string a0_0, .slice none 0 0, .int .i64 0, .slice none 0 0, .slice none 0 0]) ?_ 1 _ rfl; (with_reducible repeat (first | refine blk_drewN ?_ _ | refine blk_drew ?_ | refine blk_alloc ?_ _)); refine blk_put (cs := #[.string (⟨#[]⟩ : ByteArray), .slice none 0 0, .int .i64 0, .slice none 0 0, .slice none 0 0]) ?_ 0 _ rfl; (with_reducible repeat (first | refine blk_drewN ?_ _ | refine blk_drew ?_ | refine blk_alloc ?_ _)); exact BK240.out) hg (by simp [Value.ownBlock])); have n3_ := Aside0.mk (hb); have n4_ := Aside0.mk (ho); clear BK238; clear BK239; clear BK240; clear HB; have BK238 := n0_; have BK239 := n1_; have BK240 := n2_; have HB := n3_; have HO243 := n4_; clear n0_ n1_ n2_ n3_ n4_; clear ho hb hg hat; obtain ⟨Ao14, co14, eo14⟩ := Kd.R_slice HO243.out; subst eo14; have hcz15 := blk5 (w := w13) BK240.out; have hcz16 := blk5 (w := w13) BK238.out) | ((with_reducible refine gate_builtin (b := .append) (xs := #[.tmp 15, .tmp 17]) rfl ?_); at_builtin; refine Kd.R_append_rows (Kd.int .i64) (w0 := w) w.heap.size rfl (.tmp 15) (.tmp 17) 23 2 (.int .i64 0) 8 rfl Tryd.underlying23 info2 rfl (by decide) (by omega) (.slice none 0 0) ([] : List Int) l0_3 _ _ _ (fun _ => True) (fun _ => False) rfl rfl ?aO ?aR (fun _ _ h => h) (fun _ h => h.elim) ?aF ?aB ?aS ?aL ?_; (case aR => exact Kd.C_below HR0_3.out (kB3 HB GE238 GE239 GE240)); (case aB => exact (kB3 HB GE238 GE239 GE240)); (case aF => exact (fun _ _ => trivial)); (case aO => exact ((Kd.R_nil _ _ _ _ (fun _ => True)))); (case aS => exact (below_size (kB3 HB GE238 GE239 GE240))); (case aL => have := LMc3.out; omega); intro v245 w17 ho hb hg hat; rw [← Ny244.out] at ho; have n0_ := Aside0.mk (blk_grown (g := gb238) (o := .cells #[.string a0_0, .slice A0_1 l0_1.length c0_1, .int .i64 a0_2, .slice A0_3 l0_3.length c0_3, .slice A0_4 l0_4.length c0_4] 26 (0, 0)) (by (with_reducible repeat (first | refine blk_drewN ?_ _ | refine blk_drew ?_ | refine blk_alloc ?_ _)); refine blk_far ?_ NB238_240.out _; (with_reducible repeat (first | refine blk_drewN ?_ _ | refine blk_drew ?_ | refine blk_alloc ?_ _)); exact BK238.out) hg (by simp [Value.ownBlock])); have n1_ := Aside0.mk (blk_grown (g := gb239) (o := .cells #[.string (⟨#[]⟩ : ByteArray), .slice none 0 0, .int .i64 0, .slice none 0 0, .slice none 0 0] 26 (0, 0)) (by (with_reducible repeat (first | refine blk_drewN ?_ _ | refine blk_drew ?_ | refine blk_alloc ?_ _)); refine blk_far ?_ NB239_240.out _; (with_reducible repeat (first | refine blk_drewN ?_ _ | refine blk_drew ?_ | refine blk_alloc ?_ _)); exact BK239.out) hg (by simp [Value.ownBlock])); have n2_ := Aside0.mk (blk_grown (g := gb240) (o := .cells #[.string a0_0, .slice Ao14 y241.length co14, .int .i64 a0_2, .slice A0_3 l0_3.length c0_3, .slice A0_4 l0_4.length c0_4] 26 (0, 0)) (by (with_reducible repeat (first | refine blk_drewN ?_ _ | refine blk_drew ?_ | refine blk_alloc ?_ _)); refine blk_put (cs := #[.string a0_0, .slice A0_1 l0_1.length c0_1, .int .i64 a0_2, .slice A0_3 l0_3.length c0_3, .slice A0_4 l0_4.length c0_4]) ?_ 1 _ rfl; (with_reducible repeat (first | refine blk_drewN ?_ _ | refine blk_drew ?_ | refine blk_alloc ?_ _)); exact BK240.out) hg (by simp [Value.ownBlock])); have n3_ := Aside0.mk (Kd.R_grown (by (with_reducible repeat (first | apply Kd.R_alloc | apply Kd.R_drewN | apply Kd.R_drew)); exact (Kd.R_mono (Kd.R_far (p := ⟨gb240, 1, none⟩) (Kd.R_types HO243.out BK240.out (by decide)) (fun _ hk => hk.2) (.slice Ao14 y241.length co14)) (fun _ h_ => h_.1))) hg (fun _ _ => by simp [Value.ownBlock])); have n4_ := Aside0.mk (hb); have n5_ := Aside0.mk (ho); clear BK238; clear BK239; clear BK240; clear HO243; clear HB; have BK238 := n0_; have BK239 := n1_; have BK240 := n2_; have HO243 := n3_; have HB := n4_; have HO246 := n5_; clear n0_ n1_ n2_ n3_ n4_ n5_; clear ho hb hg hat; obtain ⟨Ao18, co18, eo18⟩ := Kd.R_slice HO246.out; subst eo18; have hcz19 := blk5 (w := w17) BK240.out; have hcz20 := blk5 (w := w17) BK238.out))
   go_loopg [5, 23] k (fun kq v5 v23 w' => ∃ (x5_1 : List (S37)) (x23_1 : Int), v23 = .int .i64 x23_1 ∧ Aside0 (thicketref07_Copy.l0 kq x5_1 l0_4 (l0_4.length : Int) x23_1 a0_0 y241 a0_2 y244 l0_4 = some (r1, r2, r3, r4, r5)) ∧ Aside0 (kq ≤ k) ∧ Aside0 (Kd.R k37 37 w' w.heap.size (fun _ => True) v5 x5_1) ∧ Aside0 (Kd.R Kd.string 9 w' w.heap.size (fun _ => True) (.slice Ao14 y241.length co14) y241) ∧ Aside0 (Kd.R (Kd.int .i64) 2 w' w.heap.size (fun _ => True) (.slice Ao18 y244.length co18) y244) ∧ Aside0 (w'.heap[gb238]? = some (.cells #[.string a0_0, (.slice A0_1 l0_1.length c0_1), .int .i64 a0_2, (.slice A0_3 l0_3.length c0_3), (.slice A0_4 l0_4.length c0_4)] 26 (0, 0))) ∧ Aside0 (w'.heap[gb239]? = some (.cells #[.string (⟨#[]⟩ : ByteArray), (.slice none 0 0), .int .i64 0, (.slice none 0 0), (.slice none 0 0)] 26 (0, 0))) ∧ Aside0 (w'.heap[gb240]? = some (.cells #[.string a0_0, (.slice Ao14 y241.length co14), .int .i64 a0_2, (.slice Ao18 y244.length co18), (.slice A0_4 l0_4.length c0_4)] 26 (0, 0))) ∧ Aside0 (Below w.heap.size w w'))
   case atStart => exact ⟨(([] : List (S37))), (0), kr, H', ⟨Nat.le_refl _⟩, ⟨by first | exact Kd.R_nil _ _ _ _ _ | exact Kd.N_nil _ _ _ _ _ | exact Kd.V_nil _ _ _ _ _ | exact Kd.Q_nil _ _ _ _ _ | exact Kd.S_nil _ _ _ _ _⟩, ⟨by (with_reducible repeat (first | apply Kd.R_alloc | apply Kd.R_drewN | apply Kd.R_drew)); exact Kd.R_mono (Kd.R_far (p := ⟨gb240, 3, none⟩) (Kd.R_types HO243.out BK240.out (by decide)) (fun _ hk => hk.2) (.slice Ao18 y244.length co18)) (fun _ hk => trivial)⟩, ⟨by (with_reducible repeat (first | apply Kd.R_alloc | apply Kd.R_drewN | apply Kd.R_drew)); exact Kd.R_mono (Kd.R_far (p := ⟨gb240, 3, none⟩) (Kd.R_types HO246.out BK240.out (by decide)) (fun _ hk => hk.2) (.slice Ao18 y244.length co18)) (fun _ hk => trivial)⟩, ⟨by (with_reducible repeat (first | refine blk_drewN ?_ _ | refine blk_drew ?_ | refine blk_alloc ?_ _)); refine blk_far ?_ NB238_240.out _; (with_reducible repeat (first | refine blk_drewN ?_ _ | refine blk_drew ?_ | refine blk_alloc ?_ _)); exact BK238.out⟩, ⟨by (with_reducible repeat (first | refine blk_drewN ?_ _ | refine blk_drew ?_ | refine blk_alloc ?_ _)); refine blk_far ?_ NB239_240.out _; (with_reducible repeat (first | refine blk_drewN ?_ _ | refine blk_drew ?_ | refine blk_alloc ?_ _)); exact BK239.out⟩, ⟨by (with_reducible repeat (first | refine blk_drewN ?_ _ | refine blk_drew ?_ | refine blk_alloc ?_ _)); refine blk_put (cs := #[.string a0_0, .slice Ao14 y241.length co14, .int .i64 a0_2, .slice A0_3 l0_3.length c0_3, .slice A0_4 l0_4.length c0_4]) ?_ 3 _ rfl; (with_reducible repeat (first | refine blk_drewN ?_ _ | refine blk_drew ?_ | refine blk_alloc ?_ _)); exact BK240.out⟩, ⟨kB3 HB GE238 GE239 GE240⟩⟩
   case round =>
    clear H'
    try clear c1
    try clear c2
    try clear p2
    try clear c3
    try clear c6
    try clear c8
    try clear c9
    try clear c10
    try clear hcz11
    try clear hcz12
    try clear hcz15
    try clear hcz16
    try clear hcz19
    try clear hcz20
    try clear hcz7
    obtain ⟨x5_1, x23_1, rfl, HA, HK1, HO_5, HO_241001, HO_241003, BK238, BK239, BK240, HB⟩ := hrel
    cases gk with
    | zero => exact absurd HA.out (by simp [thicketref07_Copy.l0])
    | succ k1 =>
     have H := HA.out
     clear HA
     simp only [thicketref07_Copy.l0] at H
     by_cases c21 : x23_1 < (l0_4.length : Int)
     ·rw [if_pos c21] at H
      have c21b0 : decide (x23_1 < (l0_4.length : Int)) = true := decide_eq_true c21
      clear c21
      by_cases c22 : 0 ≤ x23_1
      ·rw [if_pos c22] at H
       have c22b0 : decide (0 ≤ x23_1) = true := decide_eq_true c22
       clear c22
       by_cases c23 : x23_1 < (l0_4.length : Int)
       ·rw [if_pos c23] at H
        have c23b0 : decide (x23_1 < (l0_4.length : Int)) = true := decide_eq_true c23
        clear c23
        replace H := Option.bind_eq_some_iff.mp H
        obtain ⟨t249, A240, H⟩ := H
        replace H : (if x5_1.length < 4398046511104 then (thicketref07_Copy.l0 k1 (x5_1 ++ [(⟨(rd_T37 l0_4 x23_1).f0, t249⟩ : S37)]) l0_4 (l0_4.length : Int) (wrap64 (x23_1 + 1)) a0_0 y241 a0_2 y244 l0_4) else (none)) = some (r1, r2, r3, r4, r5) := H
        have A24 := Aside0.mk A240
        clear A240
        by_cases c25 : x5_1.length < 4398046511104
        ·rw [if_pos c25] at H
         have LMc25 := Aside0.mk c25
         clear c25
         obtain ⟨y252, hy252⟩ : ∃ y_ : List (S37), y_ = (x5_1 ++ [(⟨(rd_T37 l0_4 x23_1).f0, t249⟩ : S37)]) := ⟨_, rfl⟩
         replace H : (thicketref07_Copy.l0 k1 y252 l0_4 (l0_4.length : Int) (wrap64 (x23_1 + 1)) a0_0 y241 a0_2 y244 l0_4) = some (r1, r2, r3, r4, r5) := by first | (rw [hy252]; with_reducible exact H) | (have H2_ := (Option.bind_some _ _).symm.trans H; rw [hy252]; with_reducible exact H2_) | (have H2_ := (Option.bind_some _ _).symm.trans H; with_reducible exact H2_) | with_reducible exact H | (rw [hy252]; exact H) | exact H
         have Ny252 := Aside0.mk hy252
         clear hy252
         have H' := Aside0.mk H
         clear H
         have p247 : 0 ≤ (x23_1 : Int) := of_decide_eq_true ka
         have q247 : x23_1 < (l0_4.length : Int) := of_decide_eq_true ka
         obtain ⟨ad247, A247_1, c247_1, e247, hx247_0, hx247_1, hl247_1, hi247_1⟩ := at_T37 HR0_4.out x23_1 p247 q247
         cases e247
         replace hx247_0 := (HB.out.cell (World.block_lt_of_cell? w _ hx247_0)).trans hx247_0
         replace hx247_1 := (HB.out.cell (World.block_lt_of_cell? w _ hx247_1)).trans hx247_1
         have HR247_1 := Aside0.mk hi247_1
         have HC247_1 := Aside0.mk hl247_1
         clear hi247_1 hl247_1
         replace p247 := eq_true p247
         replace q247 := eq_true q247
         try go_wp2_with (first | ((with_reducible refine gate_dst (N := 8) rfl ?_); refine box_event ?hg (N := 8) ?hd (cs := #[.int .i64 0, .slice none 0 0]) (t := 37) ?hr ?_; (case hd => rfl); (case hg => rfl); (case hr => first | (go_simp; done) | (go_simp; rfl)); intro gb248 hg w26 hbox hb; have n0_ := Aside0.mk (Kd.R_below (Kd.R_elderB (kR HO_5) gb248 (Nat.le_of_eq hg.symm)) hb); have n1_ := Aside0.mk (Kd.R_below (kR HO_241001) hb); have n2_ := Aside0.mk (Kd.R_below (kR HO_241003) hb); have n3_ := Aside0.mk (blk_below (g := gb238) (o := .cells #[.string a0_0, .slice A0_1 l0_1.length c0_1, .int .i64 a0_2, .slice A0_3 l0_3.length c0_3, .slice (some ad247) l0_4.length c0_4] 26 (0, 0)) (kb BK238) hb); have n4_ := Aside0.mk (blk_below (g := gb239) (o := .cells #[.string (⟨#[]⟩ : ByteArray), .slice none 0 0, .int .i64 0, .slice none 0 0, .slice none 0 0] 26 (0, 0)) (kb BK239) hb); have n5_ := Aside0.mk (blk_below (g := gb240) (o := .cells #[.string a0_0, .slice Ao14 y241.length co14, .int .i64 a0_2, .slice Ao18 y244.length co18, .slice (some ad247) l0_4.length c0_4] 26 (0, 0)) (kb BK240) hb); have n6_ := Aside0.mk (below_step (kB3 HB GE238 GE239 GE240) hb); have n7_ := Aside0.mk (hbox); have n8_ := Aside0.mk ((kg hg (kB3 HB GE238 GE239 GE240) : w.heap.size ≤ gb248)); have n9_ := Aside0.mk ((kg hg (kB3 HB GE238 GE239 GE240) : w.heap.size ≤ gb248)); have n10_ := Aside0.mk ((by rw [hg]; exact Nat.ne_of_lt (blk_lt (g := gb238) (o := .cells #[.string a0_0, .slice A0_1 l0_1.length c0_1, .int .i64 a0_2, .slice A0_3 l0_3.length c0_3, .slice (some ad247) l0_4.length c0_4] 26 (0, 0)) (kb BK238)) : gb238 ≠ gb248)); have n11_ := Aside0.mk ((by rw [hg]; exact Nat.ne_of_gt (blk_lt (g := gb238) (o := .cells #[.string a0_0, .slice A0_1 l0_1.length c0_1, .int .i64 a0_2, .slice A0_3 l0_3.length c0_3, .slice (some ad247) l0_4.length c0_4] 26 (0, 0)) (kb BK238)) : gb248 ≠ gb238)); have n12_ := Aside0.mk ((by rw [hg]; exact Nat.ne_of_lt (blk_lt (g := gb239) (o := .cells #[.string (⟨#[]⟩ : ByteArray), .slice none 0 0, .int .i64 0, .slice none 0 0, .slice none 0 0] 26 (0, 0)) (kb BK239)) : gb239 ≠ gb248)); have n13_ := Aside0.mk ((by rw [hg]; exact Nat.ne_of_gt (blk_lt (g := gb239) (o := .cells #[.string (⟨#[]⟩ : ByteArray), .slice none 0 0, .int .i64 0, .slice none 0 0, .slice none 0 0] 26 (0, 0)) (kb BK239)) : gb248 ≠ gb239)); have n14_ := Aside0.mk ((by rw [hg]; exact Nat.ne_of_lt (blk_lt (g := gb240) (o := .cells #[.string a0_0, .slice Ao14 y241.length co14, .int .i64 a0_2, .slice Ao18 y244.length co18, .slice (some ad247) l0_4.length c0_4] 26 (0, 0)) (kb BK240)) : gb240 ≠ gb248)); have n15_ := Aside0.mk ((by rw [hg]; exact Nat.ne_of_gt (blk_lt (g := gb240) (o := .cells #[.string a0_0, .slice Ao14 y241.length co14, .int .i64 a0_2, .slice Ao18 y244.length co18, .slice (some ad247) l0_4.length c0_4] 26 (0, 0)) (kb BK240)) : gb248 ≠ gb240)); clear HO_5; clear HO_241001; clear HO_241003; clear BK238; clear BK239; clear BK240; clear HB; have HO_5 := n0_; have HO_241001 := n1_; have HO_241003 := n2_; have BK238 := n3_; have BK239 := n4_; have BK240 := n5_; have HB := n6_; have BK248 := n7_; have GW248 := n8_; have GE248 := n9_; have NB238_248 := n10_; have NB248_238 := n11_; have NB239_248 := n12_; have NB248_239 := n13_; have NB240_248 := n14_; have NB248_240 := n15_; clear n0_ n1_ n2_ n3_ n4_ n5_ n6_ n7_ n8_ n9_ n10_ n11_ n12_ n13_ n14_ n15_; clear hb hbox hg; have hnb27 := NB248_238.out; have hnc27 := NB238_248.out; have hnb28 := NB248_239.out; have hnc28 := NB239_248.out; have hnb29 := NB248_240.out; have hnc29 := NB240_248.out; have hcz30 := blk2 (w := w26) BK248.out))
         have n0_ : Aside0 (Kd.R k37 37 ((w26.setCell ⟨gb248, 0, none⟩ (.int .i64 ((rd_T37 l0_4 x23_1).f0))).setCell ⟨gb248, 1, none⟩ (.slice A247_1 ((rd_T37 l0_4 x23_1).f1).length c247_1)) w.heap.size (fun k_ => k_ ≠ gb248) u5 x5_1) := ⟨by (with_reducible repeat (first | apply Kd.R_alloc | apply Kd.R_drewN | apply Kd.R_drew)); exact Kd.R_mono (Kd.R_far (p := ⟨gb248, 1, none⟩) (Kd.R_far (p := ⟨gb248, 0, none⟩) (Kd.R_mono HO_5.out (fun k_ hk => (⟨hk, hk.2⟩ : _ ∧ k_ ≠ gb248))) (fun _ hk => hk.2) (.int .i64 ((rd_T37 l0_4 x23_1).f0))) (fun _ hk => hk.2) (.slice A247_1 ((rd_T37 l0_4 x23_1).f1).length c247_1)) (fun _ hk => hk.1.2)⟩
         have n1_ : Aside0 (Kd.R Kd.string 9 ((w26.setCell ⟨gb248, 0, none⟩ (.int .i64 ((rd_T37 l0_4 x23_1).f0))).setCell ⟨gb248, 1, none⟩ (.slice A247_1 ((rd_T37 l0_4 x23_1).f1).length c247_1)) w.heap.size (fun _ => True) (.slice Ao14 y241.length co14) y241) := ⟨by (with_reducible repeat (first | apply Kd.R_alloc | apply Kd.R_drewN | apply Kd.R_drew)); exact Kd.R_mono (Kd.R_far (p := ⟨gb248, 1, none⟩) (Kd.R_far (p := ⟨gb248, 0, none⟩) (Kd.R_types HO_241001.out BK248.out (by decide)) (fun _ hk => hk.2) (.int .i64 ((rd_T37 l0_4 x23_1).f0))) (fun _ hk => hk.2) (.slice A247_1 ((rd_T37 l0_4 x23_1).f1).length c247_1)) (fun _ hk => trivial)⟩
         have n2_ : Aside0 (Kd.R (Kd.int .i64) 2 ((w26.setCell ⟨gb248, 0, none⟩ (.int .i64 ((rd_T37 l0_4 x23_1).f0))).setCell ⟨gb248, 1, none⟩ (.slice A247_1 ((rd_T37 l0_4 x23_1).f1).length c247_1)) w.heap.size (fun _ => True) (.slice Ao18 y244.length co18) y244) := ⟨by (with_reducible repeat (first | apply Kd.R_alloc | apply Kd.R_drewN | apply Kd.R_drew)); exact Kd.R_mono (Kd.R_far (p := ⟨gb248, 1, none⟩) (Kd.R_far (p := ⟨gb248, 0, none⟩) (Kd.R_types HO_241003.out BK248.out (by decide)) (fun _ hk => hk.2) (.int .i64 ((rd_T37 l0_4 x23_1).f0))) (fun _ hk => hk.2) (.slice A247_1 ((rd_T37 l0_4 x23_1).f1).length c247_1)) (fun _ hk => trivial)⟩
         have n3_ : Aside0 (((w26.setCell ⟨gb248, 0, none⟩ (.int .i64 ((rd_T37 l0_4 x23_1).f0))).setCell ⟨gb248, 1, none⟩ (.slice A247_1 ((rd_T37 l0_4 x23_1).f1).length c247_1)).heap[gb238]? = some (.cells #[.string a0_0, .slice A0_1 l0_1.length c0_1, .int .i64 a0_2, .slice A0_3 l0_3.length c0_3, .slice (some ad247) l0_4.length c0_4] 26 (0, 0))) := ⟨by (with_reducible repeat (first | refine blk_drewN ?_ _ | refine blk_drew ?_ | refine blk_alloc ?_ _)); refine blk_far ?_ NB238_248.out _; (with_reducible repeat (first | refine blk_drewN ?_ _ | refine blk_drew ?_ | refine blk_alloc ?_ _)); refine blk_far ?_ NB238_248.out _; (with_reducible repeat (first | refine blk_drewN ?_ _ | refine blk_drew ?_ | refine blk_alloc ?_ _)); exact BK238.out⟩
         have n4_ : Aside0 (((w26.setCell ⟨gb248, 0, none⟩ (.int .i64 ((rd_T37 l0_4 x23_1).f0))).setCell ⟨gb248, 1, none⟩ (.slice A247_1 ((rd_T37 l0_4 x23_1).f1).length c247_1)).heap[gb239]? = some (.cells #[.string (⟨#[]⟩ : ByteArray), .slice none 0 0, .int .i64 0, .slice none 0 0, .slice none 0 0] 26 (0, 0))) := ⟨by (with_reducible repeat (first | refine blk_drewN ?_ _ | refine blk_drew ?_ | refine blk_alloc ?_ _)); refine blk_far ?_ NB239_248.out _; (with_reducible repeat (first | refine blk_drewN ?_ _ | refine blk_drew ?_ | refine blk_alloc ?_ _)); refine blk_far ?_ NB239_248.out _; (with_reducible repeat (first | refine blk_drewN ?_ _ | refine blk_drew ?_ | refine blk_alloc ?_ _)); exact BK239.out⟩
         have n5_ : Aside0 (((w26.setCell ⟨gb248, 0, none⟩ (.int .i64 ((rd_T37 l0_4 x23_1).f0))).setCell ⟨gb248, 1, none⟩ (.slice A247_1 ((rd_T37 l0_4 x23_1).f1).length c247_1)).heap[gb240]? = some (.cells #[.string a0_0, .slice Ao14 y241.length co14, .int .i64 a0_2, .slice Ao18 y244.length co18, .slice (some ad247) l0_4.length c0_4] 26 (0, 0))) := ⟨by (with_reducible repeat (first | refine blk_drewN ?_ _ | refine blk_drew ?_ | refine blk_alloc ?_ _)); refine blk_far ?_ NB240_248.out _; (with_reducible repeat (first | refine blk_drewN ?_ _ | refine blk_drew ?_ | refine blk_alloc ?_ _)); refine blk_far ?_ NB240_248.out _; (with_reducible repeat (first | refine blk_drewN ?_ _ | refine blk_drew ?_ | refine blk_alloc ?_ _)); exact BK240.out⟩
         have n6_ : Aside0 (((w26.setCell ⟨gb248, 0, none⟩ (.int .i64 ((rd_T37 l0_4 x23_1).f0))).setCell ⟨gb248, 1, none⟩ (.slice A247_1 ((rd_T37 l0_4 x23_1).f1).length c247_1)).heap[gb248]? = some (.cells #[.int .i64 ((rd_T37 l0_4 x23_1).f0), .slice A247_1 ((rd_T37 l0_4 x23_1).f1).length c247_1] 37 (0, 0))) := ⟨by (with_reducible repeat (first | refine blk_drewN ?_ _ | refine blk_drew ?_ | refine blk_alloc ?_ _)); refine blk_put (cs := #[.int .i64 ((rd_T37 l0_4 x23_1).f0), .slice none 0 0]) ?_ 1 _ rfl; (with_reducible repeat (first | refine blk_drewN ?_ _ | refine blk_drew ?_ | refine blk_alloc ?_ _)); refine blk_put (cs := #[.int .i64 0, .slice none 0 0]) ?_ 0 _ rfl; (with_reducible repeat (first | refine blk_drewN ?_ _ | refine blk_drew ?_ | refine blk_alloc ?_ _)); exact BK248.out⟩
         have n7_ : Aside0 (Below w.heap.size w ((w26.setCell ⟨gb248, 0, none⟩ (.int .i64 ((rd_T37 l0_4 x23_1).f0))).setCell ⟨gb248, 1, none⟩ (.slice A247_1 ((rd_T37 l0_4 x23_1).f1).length c247_1))) := ⟨kB4 HB GE238 GE239 GE240 GE248⟩
         (try clear HO_5)
         (try clear HO_241001)
         (try clear HO_241003)
         (try clear BK238)
         (try clear BK239)
         (try clear BK240)
         (try clear BK248)
         (try clear HB)
         generalize ((w26.setCell ⟨gb248, 0, none⟩ (.int .i64 ((rd_T37 l0_4 x23_1).f0))).setCell ⟨gb248, 1, none⟩ (.slice A247_1 ((rd_T37 l0_4 x23_1).f1).length c247_1)) = w31 at n0_ n1_ n2_ n3_ n4_ n5_ n6_ n7_ ⊢
         have HO_5 := n0_
         have HO_241001 := n1_
         have HO_241003 := n2_
         have BK238 := n3_
         have BK239 := n4_
         have BK240 := n5_
         have BK248 := n6_
         have HB := n7_
         clear n0_ n1_ n2_ n3_ n4_ n5_ n6_ n7_
         have n0_ := Aside0.mk (Kd.R_drew HO_5.out)
         have n1_ := Aside0.mk (Kd.R_drew HO_241001.out)
         have n2_ := Aside0.mk (Kd.R_drew HO_241003.out)
         have n3_ := Aside0.mk (blk_drew BK238.out)
         have n4_ := Aside0.mk (blk_drew BK239.out)
         have n5_ := Aside0.mk (blk_drew BK240.out)
         have n6_ := Aside0.mk (blk_drew BK248.out)
         have n7_ := Aside0.mk (below_drew1 HB.out)
         clear HO_5
         clear HO_241001
         clear HO_241003
         clear BK238
         clear BK239
         clear BK240
         clear BK248
         clear HB
         have HO_5 := n0_
         have HO_241001 := n1_
         have HO_241003 := n2_
         have BK238 := n3_
         have BK239 := n4_
         have BK240 := n5_
         have BK248 := n6_
         have HB := n7_
         clear n0_ n1_ n2_ n3_ n4_ n5_ n6_ n7_
         refine start_ (n := 10) (S := fun w' => w'.cell? ⟨gb248, 0, none⟩ = some (.int .i64 ((rd_T37 l0_4 x23_1).f0)) ∧ w'.cell? ⟨gb248, 1, none⟩ = some (.slice A247_1 ((rd_T37 l0_4 x23_1).f1).length c247_1)) (ds := []) #[false, false, false, false, false, false, false, false, false, false] (by kernel_rfl) rfl rfl ⟨(blk_cell BK248.out 0).trans rfl, (blk_cell BK248.out 1).trans rfl⟩ (fun hHeld => ?_); refine with_tabW thicketref07_Copy.tab10 thicketref07_Copy.bits10 (fun HT_ HW_ => ?_)
         generalize w31.drew = w32 at HO_5 HO_241001 HO_241003 BK238 BK239 BK240 BK248 HB hHeld ⊢
         refine pure_ (i := 0) (N := some 27) (v := ?_) (a' := ?_) #[true, false, false, false, false, false, false, false, false, false] rfl rfl (any_of HT_.out (by kernel_rfl)) (fun _ _ _ h => h) (Or.inl ⟨by rfl, ?_⟩) ?_ ?_
         rotate_left
         ·intro w'
          go_simp
          with_reducible rfl
         rotate_left
         ·simp only [Act.put, List.setIfInBounds_toArray, List.set_cons_zero, List.set_cons_succ, i64_w, i32_w]
          rfl
         refine pure_ (i := 1) (N := some 28) (v := ?_) (a' := ?_) #[true, true, false, false, false, false, false, false, false, false] rfl rfl (any_of HT_.out (by kernel_rfl)) (fun _ _ _ h => h) (Or.inl ⟨by rfl, ?_⟩) ?_ ?_
         rotate_left
         ·intro w'
          go_simp
          with_reducible rfl
         rotate_left
         ·simp only [Act.put, List.setIfInBounds_toArray, List.set_cons_zero, List.set_cons_succ, i64_w, i32_w]
          rfl
         refine pure_ (i := 3) (N := some 30) (v := ?_) (a' := ?_) #[true, true, false, true, false, false, false, false, false, false] rfl rfl (any_of HT_.out (by kernel_rfl)) (fun _ _ _ h => h) (Or.inl ⟨by rfl, ?_⟩) ?_ ?_
         rotate_left
         ·intro w'
          go_simp
          with_reducible rfl
         rotate_left
         ·simp only [Act.put, List.setIfInBounds_toArray, List.set_cons_zero, List.set_cons_succ, i64_w, i32_w]
          rfl
         refine take_ (i := 2) (N := some 29) (v := ?_) (a' := ?_) #[true, true, true, true, false, false, false, false, false, false] rfl rfl (take_ofW HT_.out HW_.out (by kernel_rfl)) (fun _ _ _ h => h) (Or.inl ⟨by rfl, ?_⟩) hHeld ?_ ?_
         rotate_left
         ·rintro w' ⟨s0, s1⟩
          go_simp
          with_reducible rfl
         rotate_left
         ·simp only [Act.put, List.setIfInBounds_toArray, List.set_cons_zero, List.set_cons_succ, i64_w, i32_w]
          rfl
         refine take_ (i := 4) (N := some 31) (v := ?_) (a' := ?_) #[true, true, true, true, true, false, false, false, false, false] rfl rfl (take_ofW HT_.out HW_.out (by kernel_rfl)) (fun _ _ _ h => h) (Or.inl ⟨by rfl, ?_⟩) hHeld ?_ ?_
         rotate_left
         ·rintro w' ⟨s0, s1⟩
          go_simp
          with_reducible rfl
         rotate_left
         ·simp only [Act.put, List.setIfInBounds_toArray, List.set_cons_zero, List.set_cons_succ, i64_w, i32_w]
          rfl
         refine one_ (i := 5) (N := some 32) #[true, true, true, true, true, true, false, false, false, false] rfl rfl (one_of HT_.out (by kernel_rfl)) (by decide) (fun K hK => ?_)
         refine goes_ Tryd.func17 (by kernel_rfl) rfl #[.slice A247_1 ((rd_T37 l0_4 x23_1).f1).length c247_1] (by rfl) rfl rfl (by (try simp only [List.map_toArray, List.map_cons, List.map_nil]); first | done | rfl | (simp only [List.length_drop, List.length_take]; rfl)) ?_
         with_reducible refine (thicketref07_Nodes.calls k1 _ _ ((rd_T37 l0_4 x23_1).f1) t249 _ ?side1 ?side2 A24.out).mono ?_
         (case side1 => repeat (first | exact (Kd.C_below HR247_1.out HB.out) | (with_reducible refine Kd.C_alloc ?_ _) | (with_reducible refine Kd.C_drewN ?_ _) | (with_reducible refine Kd.C_drew ?_)))
         (case side2 => exact HC247_1.out)
         rintro e w33 ⟨v250, rfl, ho0, hb⟩
         refine ⟨_, rfl, ?_⟩
         have n0_ := Aside0.mk (Kd.R_elder' (kR HO_5) (Kd.S_base ho0) hb)
         have n1_ := Aside0.mk (Kd.R_below (kR HO_241001) hb)
         have n2_ := Aside0.mk (Kd.R_below (kR HO_241003) hb)
         have n3_ := Aside0.mk (Kd.S_lower ho0 (below_size (kB4 HB GE238 GE239 GE240 GE248)))
         have n4_ := Aside0.mk (blk_below (g := gb238) (o := .cells #[.string a0_0, .slice A0_1 l0_1.length c0_1, .int .i64 a0_2, .slice A0_3 l0_3.length c0_3, .slice (some ad247) l0_4.length c0_4] 26 (0, 0)) (kb BK238) hb)
         have n5_ := Aside0.mk (blk_below (g := gb239) (o := .cells #[.string (⟨#[]⟩ : ByteArray), .slice none 0 0, .int .i64 0, .slice none 0 0, .slice none 0 0] 26 (0, 0)) (kb BK239) hb)
         have n6_ := Aside0.mk (blk_below (g := gb240) (o := .cells #[.string a0_0, .slice Ao14 y241.length co14, .int .i64 a0_2, .slice Ao18 y244.length co18, .slice (some ad247) l0_4.length c0_4] 26 (0, 0)) (kb BK240) hb)
         have n7_ := Aside0.mk (blk_below (g := gb248) (o := .cells #[.int .i64 ((rd_T37 l0_4 x23_1).f0), .slice A247_1 ((rd_T37 l0_4 x23_1).f1).length c247_1] 37 (0, 0)) (kb BK248) hb)
         have n8_ := Aside0.mk (below_step (kB4 HB GE238 GE239 GE240 GE248) hb)
         clear HO_5
         clear HO_241001
         clear HO_241003
         clear BK238
         clear BK239
         clear BK240
         clear BK248
         clear HB
         have HO_5 := n0_
         have HO_241001 := n1_
         have HO_241003 := n2_
         have HO251 := n3_
         have BK238 := n4_
         have BK239 := n5_
         have BK240 := n6_
         have BK248 := n7_
         have HB := n8_
         clear n0_ n1_ n2_ n3_ n4_ n5_ n6_ n7_ n8_
         (try clear hb)
         (try clear hb2)
         (try clear hk)
         (try clear hi)
         (try clear ho0)
         obtain ⟨Ao34, co34, eo34⟩ := Kd.S_slice HO251.out
         (first | subst eo34 | (injection eo34 with f1_ f2_ f3_; have f4_ := f1_.symm; have f5_ := f3_.symm; clear f1_ f2_ f3_; subst f4_; subst f5_))
         refine hK.out _ _ ⟨(blk_cell BK248.out 0).trans rfl, (blk_cell BK248.out 1).trans rfl⟩ (fun hHeld => ?_)
         clear hK K
         refine norm_ (a' := ?_) ?_ ?_
         rotate_left
         ·show Act.put _ (some 32) _ = _
          simp only [Act.put, List.setIfInBounds_toArray, List.set_cons_zero, List.set_cons_succ, i64_w, i32_w]
          rfl
         refine pure_ (i := 6) (N := some 33) (v := ?_) (a' := ?_) #[true, true, true, true, true, true, true, false, false, false] rfl rfl (any_of HT_.out (by kernel_rfl)) (fun _ _ _ h => h) (Or.inl ⟨by rfl, ?_⟩) ?_ ?_
         rotate_left
         ·intro w'
          go_simp
          with_reducible rfl
         rotate_left
         ·simp only [Act.put, List.setIfInBounds_toArray, List.set_cons_zero, List.set_cons_succ, i64_w, i32_w]
          rfl
         refine one_ (i := 7) (N := some 34) #[true, true, true, true, true, true, true, true, false, false] rfl rfl (one_of HT_.out (by kernel_rfl)) (by decide) (fun K hK => ?_)
         refine value_ (w1 := ?_) (v := ?_) (by rfl) rfl ?_ ?_
         rotate_left 2
         ·go_simp
          constructor
          ·rfl
          ·rfl
         refine hK.out _ _ ⟨(blk_cell (blk_alloc BK248.out _) 0).trans rfl, (blk_cell (blk_alloc BK248.out _) 1).trans rfl⟩ (fun hHeld => ?_)
         clear hK K
         refine norm_ (a' := ?_) ?_ ?_
         rotate_left
         ·show Act.put _ (some 34) _ = _
          simp only [Act.put, List.setIfInBounds_toArray, List.set_cons_zero, List.set_cons_succ, i64_w, i32_w]
          rfl
         refine one_ (i := 8) (N := some 35) #[true, true, true, true, true, true, true, true, true, false] rfl rfl (one_of HT_.out (by kernel_rfl)) (by decide) (fun K hK => ?_)
         refine Kd.R_append_step k37 (w0 := w) w.heap.size (by rfl) (.tmp 27) (.tmp 34) 24 37 (.agg #[(.int .i64 0), (.slice none 0 0)]) 32 rfl Tryd.underlying24 info37 rfl (by decide) (by omega) u5 x5_1 (⟨(rd_T37 l0_4 x23_1).f0, t249⟩ : S37) [.int .i64 ((rd_T37 l0_4 x23_1).f0), .slice Ao34 t249.length co34] (fun k_ => k_ ≠ gb248) (fun k_ => ((fun k_ => k_ ≠ gb248)) k_ ∧ some k_ ≠ (u5 : Value).ownBlock) rfl rfl ?aP (fun _ hk => hk) ?aF ?aO ?aB ?aS ?aL ?_
         (case aP => exact k37_mkM _ _ _ (⟨(rd_T37 l0_4 x23_1).f0, t249⟩ : S37) (Kd.R_mono (Kd.R_types (Kd.R_apart' ((Kd.S_R HO251.out)) (Kd.R_typed HO_5.out) (by decide)) BK248.out (by decide)) (fun k_ hk => ⟨hk.2, hk.1.2⟩)))
         (case aB => exact (kB4 HB GE238 GE239 GE240 GE248))
         (case aF => exact (fun k_ hk => Kd.freshB (g := gb248) (o := .cells #[.int .i64 ((rd_T37 l0_4 x23_1).f0), .slice A247_1 ((rd_T37 l0_4 x23_1).f1).length c247_1] 37 (0, 0)) (kb BK248) k_ hk))
         (case aO => exact (by (with_reducible repeat (first | apply Kd.R_alloc | apply Kd.R_drewN | apply Kd.R_drew)); exact Kd.R_mono HO_5.out (fun _ hk => hk.1)))
         (case aS => exact (below_size (kB4 HB GE238 GE239 GE240 GE248)))
         (case aL => have := LMc25.out; omega)
         intro v253 w35 ho hb hg hat
         rw [← Ny252.out] at ho
         have n0_ := Aside0.mk (Kd.R_over' (kR HO_241001) (Kd.R_typed (kR HO_5)) (by decide) hg)
         have n1_ := Aside0.mk (Kd.R_over' (kR HO_241003) (Kd.R_typed (kR HO_5)) (by decide) hg)
         have n2_ := Aside0.mk (blk_grown (g := gb238) (o := .cells #[.string a0_0, .slice A0_1 l0_1.length c0_1, .int .i64 a0_2, .slice A0_3 l0_3.length c0_3, .slice (some ad247) l0_4.length c0_4] 26 (0, 0)) (kb BK238) hg (Kd.R_ne HO_5.out BK238.out (by decide)))
         have n3_ := Aside0.mk (blk_grown (g := gb239) (o := .cells #[.string (⟨#[]⟩ : ByteArray), .slice none 0 0, .int .i64 0, .slice none 0 0, .slice none 0 0] 26 (0, 0)) (kb BK239) hg (Kd.R_ne HO_5.out BK239.out (by decide)))
         have n4_ := Aside0.mk (blk_grown (g := gb240) (o := .cells #[.string a0_0, .slice Ao14 y241.length co14, .int .i64 a0_2, .slice Ao18 y244.length co18, .slice (some ad247) l0_4.length c0_4] 26 (0, 0)) (kb BK240) hg (Kd.R_ne HO_5.out BK240.out (by decide)))
         have n5_ := Aside0.mk (blk_grown (g := gb248) (o := .cells #[.int .i64 ((rd_T37 l0_4 x23_1).f0), .slice A247_1 ((rd_T37 l0_4 x23_1).f1).length c247_1] 37 (0, 0)) (kb BK248) hg (Kd.R_away HO_5.out (fun _ hk => hk.1)))
         have n6_ := Aside0.mk (hb)
         have n7_ := Aside0.mk (ho)
         clear HO_241001
         clear HO_241003
         clear BK238
         clear BK239
         clear BK240
         clear BK248
         clear HB
         clear HO_5
         clear HO251
         have HO_241001 := n0_
         have HO_241003 := n1_
         have BK238 := n2_
         have BK239 := n3_
         have BK240 := n4_
         have BK248 := n5_
         have HB := n6_
         have HO254 := n7_
         clear n0_ n1_ n2_ n3_ n4_ n5_ n6_ n7_
         clear ho hb hg hat
         refine hK.out _ _ ⟨(blk_cell BK248.out 0).trans rfl, (blk_cell BK248.out 1).trans rfl⟩ (fun hHeld => ?_)
         clear hK K
         refine norm_ (a' := ?_) ?_ ?_
         rotate_left
         ·show Act.put _ (some 35) _ = _
          simp only [Act.put, List.setIfInBounds_toArray, List.set_cons_zero, List.set_cons_succ, i64_w, i32_w]
          rfl
         refine pure_ (i := 9) (N := some 5) (v := ?_) (a' := ?_) #[true, true, true, true, true, true, true, true, true, true] rfl rfl (any_of HT_.out (by kernel_rfl)) (fun _ _ _ h => h) (Or.inl ⟨by rfl, ?_⟩) ?_ ?_
         rotate_left
         ·intro w'
          go_simp
          with_reducible rfl
         rotate_left
         ·simp only [Act.put, List.setIfInBounds_toArray, List.set_cons_zero, List.set_cons_succ, i64_w, i32_w]
          rfl
         refine done_ (done_of HT_.out (by kernel_rfl)) ?_
         try go_wp2
         go_roundg k1
         case measure => have := HK1.out; omega
         case rel => exact ⟨(y252), (wrap64 (x23_1 + 1)), kr, H', ⟨by have := HK1.out; omega⟩, ⟨by (with_reducible repeat (first | apply Kd.R_alloc | apply Kd.R_drewN | apply Kd.R_drew)); exact Kd.R_mono HO254.out (fun _ hk => trivial)⟩, ⟨kR HO_241001⟩, ⟨kR HO_241003⟩, ⟨kb BK238⟩, ⟨kb BK239⟩, ⟨kb BK240⟩, ⟨kB4 HB GE238 GE239 GE240 GE248⟩⟩
        ·rw [if_neg c25] at H
         exact absurd H (by simp)
       ·rw [if_neg c23] at H
        exact absurd H (by simp)
      ·rw [if_neg c22] at H
       exact absurd H (by simp)
     ·rw [if_neg c21] at H
      have c21b0 : decide (x23_1 < (l0_4.length : Int)) = false := decide_eq_false c21
      clear c21
      simp only [Option.some.injEq, Prod.mk.injEq] at H
      obtain ⟨rfl, rfl, rfl, rfl, rfl⟩ := H
      obtain ⟨Ao36, co36, eo36⟩ := Kd.R_slice HO_5.out
      subst eo36
      have hnb37 := NB240_238.out
      have hnc37 := NB238_240.out
      have hnb38 := NB240_239.out
      have hnc38 := NB239_240.out
      have hcz39 := blk5 (w := wr) BK240.out
      have hnb40 := NB239_238.out
      have hnc40 := NB238_239.out
      have hcz41 := blk5 (w := wr) BK239.out
      go_wp2
      refine bodyPost_ret (results_cell_row rfl _ _ gb239 26 #[.string a0_0, .slice Ao14 y241.length co14, .int .i64 a0_2, .slice Ao18 y244.length co18, .slice Ao36 x5_1.length co36] (0, 0) _ rfl (by (with_reducible repeat (first | refine blk_drewN ?_ _ | refine blk_drew ?_ | refine blk_alloc ?_ _)); refine blk_put (cs := #[.string a0_0, .slice Ao14 y241.length co14, .int .i64 a0_2, .slice Ao18 y244.length co18, .slice none 0 0]) ?_ 4 _ rfl; (with_reducible repeat (first | refine blk_drewN ?_ _ | refine blk_drew ?_ | refine blk_alloc ?_ _)); refine blk_put (cs := #[.string a0_0, .slice Ao14 y241.length co14, .int .i64 a0_2, .slice none 0 0, .slice none 0 0]) ?_ 3 _ rfl; (with_reducible repeat (first | refine blk_drewN ?_ _ | refine blk_drew ?_ | refine blk_alloc ?_ _)); refine blk_put (cs := #[.string a0_0, .slice Ao14 y241.length co14, .int .i64 0, .slice none 0 0, .slice none 0 0]) ?_ 2 _ rfl; (with_reducible repeat (first | refine blk_drewN ?_ _ | refine blk_drew ?_ | refine blk_alloc ?_ _)); refine blk_put (cs := #[.string a0_0, .slice none 0 0, .int .i64 0, .slice none 0 0, .slice none 0 0]) ?_ 1 _ rfl; (with_reducible repeat (first | refine blk_drewN ?_ _ | refine blk_drew ?_ | refine blk_alloc ?_ _)); refine blk_put (cs := #[.string (⟨#[]⟩ : ByteArray), .slice none 0 0, .int .i64 0, .slice none 0 0, .slice none 0 0]) ?_ 0 _ rfl; (with_reducible repeat (first | refine blk_drewN ?_ _ | refine blk_drew ?_ | refine blk_alloc ?_ _)); refine blk_far ?_ NB239_240.out _; (with_reducible repeat (first | refine blk_drewN ?_ _ | refine blk_drew ?_ | refine blk_alloc ?_ _)); exact BK239.out) Tryd.underlying26 rfl (by kernel_rfl)) rfl ?_
      exact ⟨_, _, _, by first | rfl | (simp [errW_none, errW_some] <;> rfl) | (simp [*, errW_none, errW_some] <;> rfl), by (with_reducible repeat (first | apply Kd.R_alloc | apply Kd.R_drewN | apply Kd.R_drew)); exact Kd.R_mono (Kd.R_far (p := ⟨gb239, 4, none⟩) (Kd.R_far (p := ⟨gb239, 3, none⟩) (Kd.R_far (p := ⟨gb239, 2, none⟩) (Kd.R_far (p := ⟨gb239, 1, none⟩) (Kd.R_far (p := ⟨gb239, 0, none⟩) (Kd.R_far (p := ⟨gb240, 4, none⟩) (Kd.R_types (Kd.R_types HO_241001.out BK240.out (by decide)) BK239.out (by decide)) (fun _ hk => hk.1.2) (.slice Ao36 x5_1.length co36)) (fun _ hk => hk.2) (.string a0_0)) (fun _ hk => hk.2) (.slice Ao14 y241.length co14)) (fun _ hk => hk.2) (.int .i64 a0_2)) (fun _ hk => hk.2) (.slice Ao18 y244.length co18)) (fun _ hk => hk.2) (.slice Ao36 x5_1.length co36)) (fun _ hk => trivial), by (with_reducible repeat (first | apply Kd.R_alloc | apply Kd.R_drewN | apply Kd.R_drew)); exact Kd.R_mono (Kd.R_far (p := ⟨gb239, 4, none⟩) (Kd.R_far (p := ⟨gb239, 3, none⟩) (Kd.R_far (p := ⟨gb239, 2, none⟩) (Kd.R_far (p := ⟨gb239, 1, none⟩) (Kd.R_far (p := ⟨gb239, 0, none⟩) (Kd.R_far (p := ⟨gb240, 4, none⟩) (Kd.R_types (Kd.R_types HO_241003.out BK240.out (by decide)) BK239.out (by decide)) (fun _ hk => hk.1.2) (.slice Ao36 x5_1.length co36)) (fun _ hk => hk.2) (.string a0_0)) (fun _ hk => hk.2) (.slice Ao14 y241.length co14)) (fun _ hk => hk.2) (.int .i64 a0_2)) (fun _ hk => hk.2) (.slice Ao18 y244.length co18)) (fun _ hk => hk.2) (.slice Ao36 x5_1.length co36)) (fun _ hk => trivial), by (with_reducible repeat (first | apply Kd.R_alloc | apply Kd.R_drewN | apply Kd.R_drew)); exact Kd.R_mono (Kd.R_far (p := ⟨gb239, 4, none⟩) (Kd.R_far (p := ⟨gb239, 3, none⟩) (Kd.R_far (p := ⟨gb239, 2, none⟩) (Kd.R_far (p := ⟨gb239, 1, none⟩) (Kd.R_far (p := ⟨gb239, 0, none⟩) (Kd.R_far (p := ⟨gb240, 4, none⟩) (Kd.R_types (Kd.R_types HO_5.out BK240.out (by decide)) BK239.out (by decide)) (fun _ hk => hk.1.2) (.slice Ao36 x5_1.length co36)) (fun _ hk => hk.2) (.string a0_0)) (fun _ hk => hk.2) (.slice Ao14 y241.length co14)) (fun _ hk => hk.2) (.int .i64 a0_2)) (fun _ hk => hk.2) (.slice Ao18 y244.length co18)) (fun _ hk => hk.2) (.slice Ao36 x5_1.length co36)) (fun _ hk => trivial), kB3 HB GE238 GE239 GE240⟩
  ·rw [if_neg c3] at H
   exact absurd H (by simp)
 ·rw [if_neg c2] at H
  exact absurd H (by simp)
/-! ### thicketlaw08_names: function 9 -/
mutual
def thicketlaw08_names.l0 : Nat → Int → List ByteArray → Int → Option (List ByteArray)
 | 0, _, _, _ => none
 | k + 1, x0, x3, x4 => if x4 < x0 then (thicketlaw08_names.l1 k x0 x3 x4 (([102, 97, 97, 97, 97] : List Int)) x4 1) else (some x3)
def thicketlaw08_names.l1 : Nat → Int → List ByteArray → Int → List Int → Int → Int → Option (List ByteArray)
 | 0, _, _, _, _, _, _ => none
 | k + 1, x0, x3, x4, x5, x6, x7 => if x7 < 5 then (if 0 ≤ x7 then (if x7 < (x5.length : Int) then (thicketlaw08_names.l1 k x0 x3 x4 (x5.set (x7 : Int).toNat ((wrap64 (97 + (Int.tmod x6 20))) % 256)) (wrap64 (Int.tdiv x6 20)) (wrap64 (x7 + 1))) else (none)) else (none)) else (if x3.length < 8796093022208 then (thicketlaw08_names.l0 k x0 (x3 ++ [strOfNums x5]) (wrap64 (x4 + 1))) else (none))
end
def thicketlaw08_names.f (k : Nat) (a0 : Int) : Option (List ByteArray) := thicketlaw08_names.l0 k a0 ([] : List ByteArray) 0
theorem thicketlaw08_names.mono_l : ∀ k, (∀ y0 y1 y2, LeO (thicketlaw08_names.l0 k y0 y1 y2) (thicketlaw08_names.l0 (k + 1) y0 y1 y2)) ∧ (∀ y0 y1 y2 y3 y4 y5, LeO (thicketlaw08_names.l1 k y0 y1 y2 y3 y4 y5) (thicketlaw08_names.l1 (k + 1) y0 y1 y2 y3 y4 y5))
 | 0 => ⟨fun _ _ _ r h => by simp [thicketlaw08_names.l0] at h, fun _ _ _ _ _ _ r h => by simp [thicketlaw08_names.l1] at h⟩
 | k + 1 => by
  obtain ⟨ih0, ih1⟩ := thicketlaw08_names.mono_l k
  refine ⟨?_, ?_⟩
  ·intro y0 y1 y2
   unfold thicketlaw08_names.l0
   repeat' first
   | (with_reducible exact ih0 _ _ _)
   | (with_reducible exact ih1 _ _ _ _ _ _)
   | (with_reducible exact LeO.refl _)
   | (with_reducible exact LeO.none _)
   | (with_reducible refine LeO.ite ?_ ?_)
   | (with_reducible refine LeO.bind ?_ (fun _ => ?_))
   | exact ih0 _ _ _
   | exact ih1 _ _ _ _ _ _
   | exact LeO.none _
   | refine LeO.ite ?_ ?_
   | refine LeO.bind ?_ (fun _ => ?_)
  ·intro y0 y1 y2 y3 y4 y5
   unfold thicketlaw08_names.l1
   repeat' first
   | (with_reducible exact ih0 _ _ _)
   | (with_reducible exact ih1 _ _ _ _ _ _)
   | (with_reducible exact LeO.refl _)
   | (with_reducible exact LeO.none _)
   | (with_reducible refine LeO.ite ?_ ?_)
   | (with_reducible refine LeO.bind ?_ (fun _ => ?_))
   | exact ih0 _ _ _
   | exact ih1 _ _ _ _ _ _
   | exact LeO.none _
   | refine LeO.ite ?_ ?_
   | refine LeO.bind ?_ (fun _ => ?_)
theorem thicketlaw08_names.mono : ∀ a0 k, LeO (thicketlaw08_names.f k a0) (thicketlaw08_names.f (k + 1) a0) := by
 intro a0 k
 obtain ⟨ih0, ih1⟩ := thicketlaw08_names.mono_l k
 unfold thicketlaw08_names.f
 repeat' first
   | (with_reducible exact ih0 _ _ _)
   | (with_reducible exact ih1 _ _ _ _ _ _)
   | (with_reducible exact LeO.refl _)
   | (with_reducible exact LeO.none _)
   | (with_reducible refine LeO.ite ?_ ?_)
   | (with_reducible refine LeO.bind ?_ (fun _ => ?_))
   | exact ih0 _ _ _
   | exact ih1 _ _ _ _ _ _
   | exact LeO.none _
   | refine LeO.ite ?_ ?_
   | refine LeO.bind ?_ (fun _ => ?_)
set_option maxHeartbeats 8000000 in
set_option maxRecDepth 100000 in
theorem thicketlaw08_names.calls (k : Nat) (a0 : Int) (r : List ByteArray) (w : World) (h : thicketlaw08_names.f k a0 = some r) :
  Calls Tryd.prog 9 #[.int .i64 a0] w fun e w' => ∃ v0_ : Value, e = .returned (v0_) ∧ Kd.R Kd.string 9 w' w.heap.size (fun _ => True) v0_ r ∧ Below w.heap.size w w' := by
 have HB := Aside0.mk (Below.refl w.heap.size w)
 have H : (thicketlaw08_names.l0 k a0 ([] : List ByteArray) 0) = some r := h
 clear h
 have H' := Aside0.mk H
 clear H
 go_enter Tryd.func9, Tryd.ntmps9
 go_wp2
 go_loopg [3, 4] k (fun kq v3 v4 w' => ∃ (x3_1 : List ByteArray) (x4_1 : Int), v4 = .int .i64 x4_1 ∧ Aside0 (thicketlaw08_names.l0 kq a0 x3_1 x4_1 = some r) ∧ Aside0 (kq ≤ k) ∧ Aside0 (Kd.R Kd.string 9 w' w.heap.size (fun _ => True) v3 x3_1) ∧ Aside0 (Below w.heap.size w w'))
 case atStart => exact ⟨(([] : List ByteArray)), (0), kr, H', ⟨Nat.le_refl _⟩, ⟨by first | exact Kd.R_nil _ _ _ _ _ | exact Kd.N_nil _ _ _ _ _ | exact Kd.V_nil _ _ _ _ _ | exact Kd.Q_nil _ _ _ _ _ | exact Kd.S_nil _ _ _ _ _⟩, ⟨kB0 HB⟩⟩
 case round =>
  clear H'
  obtain ⟨x3_1, x4_1, rfl, HA, HK1, HO_3, HB⟩ := hrel
  cases gk with
  | zero => exact absurd HA.out (by simp [thicketlaw08_names.l0])
  | succ k1 =>
   have H := HA.out
   clear HA
   simp only [thicketlaw08_names.l0] at H
   by_cases c2 : x4_1 < a0
   ·rw [if_pos c2] at H
    have c2b0 : decide (x4_1 < a0) = true := decide_eq_true c2
    clear c2
    obtain ⟨y255, hy255⟩ : ∃ y_ : List Int, y_ = (([102, 97, 97, 97, 97] : List Int)) := ⟨_, rfl⟩
    replace H : (thicketlaw08_names.l1 k1 a0 x3_1 x4_1 y255 x4_1 1) = some r := by first | (rw [hy255]; with_reducible exact H) | (have H2_ := (Option.bind_some _ _).symm.trans H; rw [hy255]; with_reducible exact H2_) | (have H2_ := (Option.bind_some _ _).symm.trans H; with_reducible exact H2_) | with_reducible exact H | (rw [hy255]; exact H) | exact H
    have Ny255 := Aside0.mk hy255
    clear hy255
    have H' := Aside0.mk H
    clear H
    go_wp2_with (first | ((with_reducible refine gate_dst (N := 13) rfl ?_); refine Kd.R_lit (Kd.int .u8) _ 5 ?hg (N := 13) ?hd (xs := ([102, 97, 97, 97, 97] : List Int)) (inner := [.int .u8 102, .int .u8 97, .int .u8 97, .int .u8 97, .int .u8 97]) (ok := fun _ => True) (okp := fun _ => True) ?hr ?hp (fun _ hk => hk) trivial (Below.refl _ _) (Nat.le_refl _) (by simp) ?_; (case hd => rfl); (case hg => rfl); (case hr => first | (go_simp; done) | (go_simp; rfl)); (case hp => exact (Reps.one (show Kd.M (Kd.int .u8) _ _ _ 102 [.int .u8 102] from rfl) (Reps.one (show Kd.M (Kd.int .u8) _ _ _ 97 [.int .u8 97] from rfl) (Reps.one (show Kd.M (Kd.int .u8) _ _ _ 97 [.int .u8 97] from rfl) (Reps.one (show Kd.M (Kd.int .u8) _ _ _ 97 [.int .u8 97] from rfl) (Reps.one (show Kd.M (Kd.int .u8) _ _ _ 97 [.int .u8 97] from rfl) (Reps.none _ _))))))); intro v256 w3 ho4 hb hg_ hnew_; clear hg_ hnew_; (first | rw [← Ny255.out] at ho4 | (simp only [Int.reduceToNat] at ho4; rw [← Ny255.out] at ho4)); have n0_ := Aside0.mk (Kd.R_below (kR HO_3) hb); have n1_ := Aside0.mk (Kd.R_lower ho4 (below_size (kB0 HB))); have n2_ := Aside0.mk (below_step (kB0 HB) hb); clear HO_3; clear HB; have HO_3 := n0_; have HO257 := n1_; have HB := n2_; clear n0_ n1_ n2_; clear hb ho4))
    go_loopg [6, 7] k1 (fun kq v6 v7 w' => ∃ (x5_2 : List Int) (x6_2 : Int) (x7_2 : Int), v6 = .int .i64 x6_2 ∧ v7 = .int .i64 x7_2 ∧ Aside0 (thicketlaw08_names.l1 kq a0 x3_1 x4_1 x5_2 x6_2 x7_2 = some r) ∧ Aside0 (kq ≤ k1) ∧ Aside0 (Kd.R Kd.string 9 w' w.heap.size (fun _ => True) u3 x3_1) ∧ Aside0 (Kd.R (Kd.int .u8) 5 w' w.heap.size (fun _ => True) v256 x5_2) ∧ Aside0 (Below w.heap.size w w'))
    case atStart => exact ⟨(y255), (x4_1), (1), kr, kr, H', ⟨Nat.le_refl _⟩, ⟨kR HO_3⟩, ⟨kR HO257⟩, ⟨kB0 HB⟩⟩
    case round =>
     clear H'
     try clear c2
     try clear c2b0
     try clear p2
     obtain ⟨x5_2, x6_2, x7_2, rfl, rfl, HA, HK2, HO_3, HO_5, HB⟩ := hrel
     cases gk with
     | zero => exact absurd HA.out (by simp [thicketlaw08_names.l1])
     | succ k2 =>
      have H := HA.out
      clear HA
      simp only [thicketlaw08_names.l1] at H
      by_cases c5 : x7_2 < 5
      ·rw [if_pos c5] at H
       have c5b0 : decide (x7_2 < 5) = true := decide_eq_true c5
       clear c5
       by_cases c6 : 0 ≤ x7_2
       ·rw [if_pos c6] at H
        have c6b0 : decide (0 ≤ x7_2) = true := decide_eq_true c6
        clear c6
        by_cases c7 : x7_2 < (x5_2.length : Int)
        ·rw [if_pos c7] at H
         have c7b0 : decide (x7_2 < (x5_2.length : Int)) = true := decide_eq_true c7
         clear c7
         obtain ⟨y258, hy258⟩ : ∃ y_ : List Int, y_ = (x5_2.set (x7_2 : Int).toNat ((wrap64 (97 + (Int.tmod x6_2 20))) % 256)) := ⟨_, rfl⟩
         replace H : (thicketlaw08_names.l1 k2 a0 x3_1 x4_1 y258 (wrap64 (Int.tdiv x6_2 20)) (wrap64 (x7_2 + 1))) = some r := by first | (rw [hy258]; with_reducible exact H) | (have H2_ := (Option.bind_some _ _).symm.trans H; rw [hy258]; with_reducible exact H2_) | (have H2_ := (Option.bind_some _ _).symm.trans H; with_reducible exact H2_) | with_reducible exact H | (rw [hy258]; exact H) | exact H
         have Ny258 := Aside0.mk hy258
         clear hy258
         have H' := Aside0.mk H
         clear H
         have p8 : 0 ≤ (x7_2 : Int) := of_decide_eq_true ka
         have q8 : (x7_2 : Int) < ((x5_2.length : Int) : Int) := of_decide_eq_true ka
         obtain ⟨go8, co8, eo8, gb8, gl8, cl8, HG8⟩ := Kd.R_form HO_5.out (by omega)
         (first | cases eo8 | (injection eo8 with ea_ en_ ec_; (first | subst ea_ | (injection ea_ with ea_; subst ea_)); subst ec_; clear en_))
         have GB8 := Aside0.mk gb8
         have GG8 := Aside0.mk HG8
         clear gb8 gl8 HG8
         obtain ⟨hx8_0, hf8_0⟩ := Kd.R_celln 0 HO_5.out (x7_2 : Int) p8 q8
         replace p8 := eq_true p8
         replace q8 := eq_true q8
         have HP9 := Kd.R_putg HO_5.out (x7_2 : Int) ((wrap64 (97 + (Int.tmod x6_2 20))) % 256)
         go_wp2_with (first | ((with_reducible refine gate_store (t := 5) (p := 25) rfl ?_); refine store_event (t := 5) (p := 25) (v := ?vo_w10) (w1 := (wr.setCell ⟨go8, (x7_2 : Int).toNat, none⟩ (.int .u8 ((wrap64 (97 + (Int.tmod x6_2 20))) % 256)))) ?hg ?ho ?hn ?hr ?_; (case ho => rfl); (case hg => rfl); (case hn => rfl); (case hr => first | (go_simp; done) | (go_simp; rfl)); intro w10 hw; have hg : wr.grownBy w10 (some go8) := (by rw [hw]; exact HP9.2); have hp_ : Kd.R (Kd.int .u8) 5 w10 w.heap.size (fun _ => True) (.slice (some ⟨go8, 0, none⟩) x5_2.length co8) y258 := (by rw [hw, Ny258.out]; exact HP9.1); clear HP9; have n0_ := Aside0.mk (Kd.R_over' (v := (.slice (some ⟨go8, 0, none⟩) x5_2.length co8)) (kR HO_3) (Kd.R_typed HO_5.out) (by decide) hg); have n1_ := Aside0.mk (hp_); have n2_ := Aside0.mk ((by rw [hw]; exact below_set (HB.out) GB8.out : Below w.heap.size w w10)); clear HO_3; clear HO_5; clear HB; have HO_3 := n0_; have HO_5 := n1_; have HB := n2_; clear n0_ n1_ n2_; clear hg hw hp_))
         go_roundg k2
         case measure => have := HK1.out; have := HK2.out; omega
         case rel => exact ⟨(y258), (wrap64 (Int.tdiv x6_2 20)), (wrap64 (x7_2 + 1)), kr, kr, H', ⟨by have := HK1.out; have := HK2.out; omega⟩, ⟨kR HO_3⟩, ⟨kR HO_5⟩, ⟨kB0 HB⟩⟩
        ·rw [if_neg c7] at H
         exact absurd H (by simp)
       ·rw [if_neg c6] at H
        exact absurd H (by simp)
      ·rw [if_neg c5] at H
       have c5b0 : decide (x7_2 < 5) = false := decide_eq_false c5
       clear c5
       by_cases c11 : x3_1.length < 8796093022208
       ·rw [if_pos c11] at H
        have LMc11 := Aside0.mk c11
        clear c11
        obtain ⟨y259, hy259⟩ : ∃ y_ : List ByteArray, y_ = (x3_1 ++ [strOfNums x5_2]) := ⟨_, rfl⟩
        replace H : (thicketlaw08_names.l0 k2 a0 y259 (wrap64 (x4_1 + 1))) = some r := by first | (rw [hy259]; with_reducible exact H) | (have H2_ := (Option.bind_some _ _).symm.trans H; rw [hy259]; with_reducible exact H2_) | (have H2_ := (Option.bind_some _ _).symm.trans H; with_reducible exact H2_) | with_reducible exact H | (rw [hy259]; exact H) | exact H
        have Ny259 := Aside0.mk hy259
        clear hy259
        have H' := Aside0.mk H
        clear H
        have hcv12 := own_string (P := Tryd.prog) Tryd.underlying55 Tryd.underlying5 Tryd.underlying9 (Kd.own_of_R HO_5.out)
        go_wp2_with (first | ((with_reducible refine gate_builtin (b := .append) (xs := #[.tmp 28, .tmp 31]) rfl ?_); at_builtin; refine Kd.R_append Kd.string (w0 := w) w.heap.size rfl (.tmp 28) (.tmp 31) 22 9 (.string ⟨#[]⟩) 16 rfl Tryd.underlying22 info9 rfl (by decide) (by omega) u3 x3_1 (strOfNums x5_2) [.string (strOfNums x5_2)] (fun _ => True) (fun _ => False) rfl rfl ?aP (fun _ hk => hk.elim) ?aF ?aO ?aB ?aS ?aL ?_; (case aP => exact rfl); (case aB => exact (kB0 HB)); (case aF => exact (fun _ _ => trivial)); (case aO => exact (kR HO_3)); (case aS => exact (below_size (kB0 HB))); (case aL => have := LMc11.out; omega); intro v260 w13 ho hb hg hat; rw [← Ny259.out] at ho; have n0_ := Aside0.mk (Kd.R_over' (kR HO_5) (Kd.R_typed (kR HO_3)) (by decide) hg); have n1_ := Aside0.mk (hb); have n2_ := Aside0.mk (ho); clear HO_5; clear HB; clear HO_3; have HO_5 := n0_; have HB := n1_; have HO261 := n2_; clear n0_ n1_ n2_; clear ho hb hg hat))
        go_roundg k2
        case measure => have := HK1.out; have := HK2.out; omega
        case rel => exact ⟨(y259), (wrap64 (x4_1 + 1)), kr, H', ⟨by have := HK1.out; have := HK2.out; omega⟩, ⟨kR HO261⟩, ⟨kB0 HB⟩⟩
       ·rw [if_neg c11] at H
        exact absurd H (by simp)
   ·rw [if_neg c2] at H
    have c2b0 : decide (x4_1 < a0) = false := decide_eq_false c2
    clear c2
    obtain rfl := Option.some.inj H
    go_wp2
    go_ret
    exact ⟨_, by first | rfl | (simp [errW_none, errW_some] <;> rfl) | (simp [*, errW_none, errW_some] <;> rfl), by (with_reducible repeat (first | apply Kd.R_alloc | apply Kd.R_drewN | apply Kd.R_drew)); exact HO_3.out, kB0 HB⟩
-- NOT PRINTED: function 3 (thicketlaw08_RulesOthers)
end Go.Proofs.YtpeiafamkajedaaDoor.FAll
