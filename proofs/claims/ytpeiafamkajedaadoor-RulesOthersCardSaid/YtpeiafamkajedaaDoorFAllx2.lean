-- written by fprint.sh, a program of ours over the kit's print: not by hand
import Derived.Test.YtpeiafamkajedaaDoorFAllx0
import Derived.Test.YtpeiafamkajedaaDoorFAllx1
namespace Go.Proofs.YtpeiafamkajedaaDoor.FAll
open Go.RowKit Go.Proofs.YtpeiafamkajedaaDoorW.PrintWords Go.Proofs.YtpeiafamkajedaaDoorW.PrintLast Go.Proofs.YtpeiafamkajedaaDoorW.PrintMore
attribute [local go_sem] feq_walk fne_walk flt_walk fle_walk fgt_walk fge_walk fint_walk fstore_walk run_f64bits max2_int min2_int max_two min_two max_three min_three max_four min_four   -- for this text's walks alone
set_option linter.unusedVariables false
set_option linter.unusedSimpArgs false
/-! ### trees_right: function 44 -/
mutual
def trees_right.j0 : Nat → Bool → Bool → Int → Int → Int → Nat → List Int → Int → Int → Int → Option (Bool)
 | 0, _, _, _, _, _, _, _, _, _, _ => none
 | k + 1, x5, x92, x103000, x103001, x103002, x103003, x103004, x103005, x103006, x103007 => if x92 = true then (some false) else (if x103000 = 2 then (if (feq x103003 x103003) = true then (some ((x103004.length : Int) == 0)) else (some false)) else (trees_right.l0 k x5 (-1) x103004 (x103004.length : Int) 0))
def trees_right.l0 : Nat → Bool → Int → List Int → Int → Int → Option (Bool)
 | 0, _, _, _, _, _ => none
 | k + 1, x5, x6, x108, x109, x110 => if x110 < x109 then (if 0 ≤ x110 then (if x110 < (x108.length : Int) then (if (rd x108 x110) ≤ x6 then (some false) else (if (rd x108 x110) ≥ 1024 then (some false) else (trees_right.l0 k x5 (rd x108 x110) x108 x109 (wrap64 (x110 + 1))))) else (none)) else (none)) else (if x5 = true then (some (decide (x6 ≥ 0))) else (some false))
end
def trees_right.f (k : Nat) (a0_0 : Int) (a0_1 : Int) (a0_2 : Int) (a0_3 : Nat) (l0_4 : List Int) (a0_5 : Int) (a0_6 : Int) (a0_7 : Int) (a1 : Int) : Option (Bool) := if a0_0 = 1 then (if a0_2 = 0 then (if (f64bits a0_3) = 0 then (if (l0_4.length : Int) = 0 then (if a0_5 = 0 then (if a0_6 = 0 then (some (a0_7 == 0)) else (some false)) else (some false)) else (some false)) else (some false)) else (some false)) else ((trees_inner.f a0_0 a0_1 a0_2 a0_3 l0_4 a0_5 a0_6 a0_7).bind fun t103 => (if t103 = true then (if a0_1 = 0 then (if a0_2 < 0 then (trees_right.j0 k ((f64bits a0_3) == 0) true a0_0 a0_1 a0_2 a0_3 l0_4 a0_5 a0_6 a0_7) else (if a0_2 ≥ 65536 then (trees_right.j0 k ((f64bits a0_3) == 0) true a0_0 a0_1 a0_2 a0_3 l0_4 a0_5 a0_6 a0_7) else (if a0_5 = 1 then (if a0_6 < 1 then (trees_right.j0 k ((f64bits a0_3) == 0) true a0_0 a0_1 a0_2 a0_3 l0_4 a0_5 a0_6 a0_7) else (if a0_6 ≥ a1 then (trees_right.j0 k ((f64bits a0_3) == 0) true a0_0 a0_1 a0_2 a0_3 l0_4 a0_5 a0_6 a0_7) else (if a0_7 < 1 then (trees_right.j0 k ((f64bits a0_3) == 0) true a0_0 a0_1 a0_2 a0_3 l0_4 a0_5 a0_6 a0_7) else (trees_right.j0 k ((f64bits a0_3) == 0) (decide (a0_7 ≥ a1)) a0_0 a0_1 a0_2 a0_3 l0_4 a0_5 a0_6 a0_7)))) else (if a0_5 = 2 then (if a0_6 < 1 then (trees_right.j0 k ((f64bits a0_3) == 0) true a0_0 a0_1 a0_2 a0_3 l0_4 a0_5 a0_6 a0_7) else (if a0_6 ≥ a1 then (trees_right.j0 k ((f64bits a0_3) == 0) true a0_0 a0_1 a0_2 a0_3 l0_4 a0_5 a0_6 a0_7) else (if a0_7 < 1 then (trees_right.j0 k ((f64bits a0_3) == 0) true a0_0 a0_1 a0_2 a0_3 l0_4 a0_5 a0_6 a0_7) else (trees_right.j0 k ((f64bits a0_3) == 0) (decide (a0_7 ≥ a1)) a0_0 a0_1 a0_2 a0_3 l0_4 a0_5 a0_6 a0_7)))) else (trees_right.j0 k ((f64bits a0_3) == 0) true a0_0 a0_1 a0_2 a0_3 l0_4 a0_5 a0_6 a0_7))))) else (trees_right.j0 k ((f64bits a0_3) == 0) true a0_0 a0_1 a0_2 a0_3 l0_4 a0_5 a0_6 a0_7)) else (trees_right.j0 k ((f64bits a0_3) == 0) true a0_0 a0_1 a0_2 a0_3 l0_4 a0_5 a0_6 a0_7)))
theorem trees_right.mono_l : ∀ k, (∀ y0 y1 y2 y3 y4 y5 y6 y7 y8 y9, LeO (trees_right.j0 k y0 y1 y2 y3 y4 y5 y6 y7 y8 y9) (trees_right.j0 (k + 1) y0 y1 y2 y3 y4 y5 y6 y7 y8 y9)) ∧ (∀ y0 y1 y2 y3 y4, LeO (trees_right.l0 k y0 y1 y2 y3 y4) (trees_right.l0 (k + 1) y0 y1 y2 y3 y4))
 | 0 => ⟨fun _ _ _ _ _ _ _ _ _ _ r h => by simp [trees_right.j0] at h, fun _ _ _ _ _ r h => by simp [trees_right.l0] at h⟩
 | k + 1 => by
  obtain ⟨ih0, ih1⟩ := trees_right.mono_l k
  refine ⟨?_, ?_⟩
  ·intro y0 y1 y2 y3 y4 y5 y6 y7 y8 y9
   unfold trees_right.j0
   repeat' first
   | (with_reducible exact ih0 _ _ _ _ _ _ _ _ _ _)
   | (with_reducible exact ih1 _ _ _ _ _)
   | (with_reducible exact LeO.refl _)
   | (with_reducible exact LeO.none _)
   | (with_reducible refine LeO.ite ?_ ?_)
   | (with_reducible refine LeO.bind ?_ (fun _ => ?_))
   | exact ih0 _ _ _ _ _ _ _ _ _ _
   | exact ih1 _ _ _ _ _
   | exact LeO.none _
   | refine LeO.ite ?_ ?_
   | refine LeO.bind ?_ (fun _ => ?_)
  ·intro y0 y1 y2 y3 y4
   unfold trees_right.l0
   repeat' first
   | (with_reducible exact ih0 _ _ _ _ _ _ _ _ _ _)
   | (with_reducible exact ih1 _ _ _ _ _)
   | (with_reducible exact LeO.refl _)
   | (with_reducible exact LeO.none _)
   | (with_reducible refine LeO.ite ?_ ?_)
   | (with_reducible refine LeO.bind ?_ (fun _ => ?_))
   | exact ih0 _ _ _ _ _ _ _ _ _ _
   | exact ih1 _ _ _ _ _
   | exact LeO.none _
   | refine LeO.ite ?_ ?_
   | refine LeO.bind ?_ (fun _ => ?_)
theorem trees_right.mono : ∀ a0 a1 a2 a3 a4 a5 a6 a7 a8 k, LeO (trees_right.f k a0 a1 a2 a3 a4 a5 a6 a7 a8) (trees_right.f (k + 1) a0 a1 a2 a3 a4 a5 a6 a7 a8) := by
 intro a0 a1 a2 a3 a4 a5 a6 a7 a8 k
 obtain ⟨ih0, ih1⟩ := trees_right.mono_l k
 unfold trees_right.f
 repeat' first
   | (with_reducible exact ih0 _ _ _ _ _ _ _ _ _ _)
   | (with_reducible exact ih1 _ _ _ _ _)
   | (with_reducible exact LeO.refl _)
   | (with_reducible exact LeO.none _)
   | (with_reducible refine LeO.ite ?_ ?_)
   | (with_reducible refine LeO.bind ?_ (fun _ => ?_))
   | exact ih0 _ _ _ _ _ _ _ _ _ _
   | exact ih1 _ _ _ _ _
   | exact LeO.none _
   | refine LeO.ite ?_ ?_
   | refine LeO.bind ?_ (fun _ => ?_)
set_option maxHeartbeats 8000000 in
set_option maxRecDepth 100000 in
theorem trees_right.calls (k : Nat) (a0_0 : Int) (a0_1 : Int) (a0_2 : Int) (a0_3 : Nat) (A0_4 : Option Addr) (c0_4 : Nat) (l0_4 : List Int) (a0_5 : Int) (a0_6 : Int) (a0_7 : Int) (a1 : Int) (r : Bool) (w : World) (hr0_4 : Kd.C (Kd.int .i64) w A0_4 l0_4.length l0_4) (hc0_4 : l0_4.length ≤ c0_4) (h : trees_right.f k a0_0 a0_1 a0_2 a0_3 l0_4 a0_5 a0_6 a0_7 a1 = some r) :
  Calls Tryd.prog 44 #[.agg #[.int .u8 a0_0, .int .i64 a0_1, .int .i64 a0_2, .float .f64 a0_3, .slice A0_4 l0_4.length c0_4, .int .u8 a0_5, .int .i64 a0_6, .int .i64 a0_7], .int .i64 a1] w fun e w' => e = .returned (.bool r) ∧ Below w.heap.size w w' := by
 have hu65 := Tryd.underlying65
 have HR0_4 := Aside0.mk hr0_4
 have HC0_4 := Aside0.mk hc0_4
 clear hr0_4 hc0_4
 have HB := Aside0.mk (Below.refl w.heap.size w)
 have H : (if a0_0 = 1 then (if a0_2 = 0 then (if (f64bits a0_3) = 0 then (if (l0_4.length : Int) = 0 then (if a0_5 = 0 then (if a0_6 = 0 then (some (a0_7 == 0)) else (some false)) else (some false)) else (some false)) else (some false)) else (some false)) else ((trees_inner.f a0_0 a0_1 a0_2 a0_3 l0_4 a0_5 a0_6 a0_7).bind fun t103 => (if t103 = true then (if a0_1 = 0 then (if a0_2 < 0 then (trees_right.j0 k ((f64bits a0_3) == 0) true a0_0 a0_1 a0_2 a0_3 l0_4 a0_5 a0_6 a0_7) else (if a0_2 ≥ 65536 then (trees_right.j0 k ((f64bits a0_3) == 0) true a0_0 a0_1 a0_2 a0_3 l0_4 a0_5 a0_6 a0_7) else (if a0_5 = 1 then (if a0_6 < 1 then (trees_right.j0 k ((f64bits a0_3) == 0) true a0_0 a0_1 a0_2 a0_3 l0_4 a0_5 a0_6 a0_7) else (if a0_6 ≥ a1 then (trees_right.j0 k ((f64bits a0_3) == 0) true a0_0 a0_1 a0_2 a0_3 l0_4 a0_5 a0_6 a0_7) else (if a0_7 < 1 then (trees_right.j0 k ((f64bits a0_3) == 0) true a0_0 a0_1 a0_2 a0_3 l0_4 a0_5 a0_6 a0_7) else (trees_right.j0 k ((f64bits a0_3) == 0) (decide (a0_7 ≥ a1)) a0_0 a0_1 a0_2 a0_3 l0_4 a0_5 a0_6 a0_7)))) else (if a0_5 = 2 then (if a0_6 < 1 then (trees_right.j0 k ((f64bits a0_3) == 0) true a0_0 a0_1 a0_2 a0_3 l0_4 a0_5 a0_6 a0_7) else (if a0_6 ≥ a1 then (trees_right.j0 k ((f64bits a0_3) == 0) true a0_0 a0_1 a0_2 a0_3 l0_4 a0_5 a0_6 a0_7) else (if a0_7 < 1 then (trees_right.j0 k ((f64bits a0_3) == 0) true a0_0 a0_1 a0_2 a0_3 l0_4 a0_5 a0_6 a0_7) else (trees_right.j0 k ((f64bits a0_3) == 0) (decide (a0_7 ≥ a1)) a0_0 a0_1 a0_2 a0_3 l0_4 a0_5 a0_6 a0_7)))) else (trees_right.j0 k ((f64bits a0_3) == 0) true a0_0 a0_1 a0_2 a0_3 l0_4 a0_5 a0_6 a0_7))))) else (trees_right.j0 k ((f64bits a0_3) == 0) true a0_0 a0_1 a0_2 a0_3 l0_4 a0_5 a0_6 a0_7)) else (trees_right.j0 k ((f64bits a0_3) == 0) true a0_0 a0_1 a0_2 a0_3 l0_4 a0_5 a0_6 a0_7)))) = some r := h
 clear h
 by_cases c3 : a0_0 = 1
 ·rw [if_pos c3] at H
  have c3b0 : (a0_0 == 1) = true := beq_iff_eq.mpr c3
  have c3b1 : (a0_0 != 1) = false := bne_eq_false_iff_eq.mpr c3
  clear c3
  by_cases c4 : a0_2 = 0
  ·rw [if_pos c4] at H
   have c4b0 : (a0_2 == 0) = true := beq_iff_eq.mpr c4
   have c4b1 : (a0_2 != 0) = false := bne_eq_false_iff_eq.mpr c4
   clear c4
   by_cases c5 : (f64bits a0_3) = 0
   ·rw [if_pos c5] at H
    have c5b0 : ((f64bits a0_3) == 0) = true := beq_iff_eq.mpr c5
    have c5b1 : ((f64bits a0_3) != 0) = false := bne_eq_false_iff_eq.mpr c5
    clear c5
    by_cases c6 : (l0_4.length : Int) = 0
    ·rw [if_pos c6] at H
     have c6b0 : ((l0_4.length : Int) == 0) = true := beq_iff_eq.mpr c6
     have c6b1 : ((l0_4.length : Int) != 0) = false := bne_eq_false_iff_eq.mpr c6
     clear c6
     by_cases c7 : a0_5 = 0
     ·rw [if_pos c7] at H
      have c7b0 : (a0_5 == 0) = true := beq_iff_eq.mpr c7
      have c7b1 : (a0_5 != 0) = false := bne_eq_false_iff_eq.mpr c7
      clear c7
      by_cases c8 : a0_6 = 0
      ·rw [if_pos c8] at H
       have c8b0 : (a0_6 == 0) = true := beq_iff_eq.mpr c8
       have c8b1 : (a0_6 != 0) = false := bne_eq_false_iff_eq.mpr c8
       clear c8
       obtain rfl := Option.some.inj H
       go_enter Tryd.func44, Tryd.ntmps44
       go_wp2_with (first | ((with_reducible refine gate_dst (N := 2) rfl ?_); (try (refine gate_guard (by rfl) ?_; dsimp only)); refine box_event ?hg (N := 2) ?hd (cs := #[.int .u8 a0_0, .int .i64 a0_1, .int .i64 a0_2, .float .f64 a0_3, .slice A0_4 l0_4.length c0_4, .int .u8 a0_5, .int .i64 a0_6, .int .i64 a0_7]) (t := 65) ?hr ?_; (case hd => rfl); (case hg => rfl); (case hr => first | (go_simp; done) | (go_simp; rfl)); intro gb102 hg w9 hbox hb; have n0_ := Aside0.mk (below_step (kB0 HB) hb); have n1_ := Aside0.mk (hbox); have n2_ := Aside0.mk ((kg hg (kB0 HB) : w.heap.size ≤ gb102)); have n3_ := Aside0.mk ((kg hg (kB0 HB) : w.heap.size ≤ gb102)); clear HB; have HB := n0_; have BK102 := n1_; have GW102 := n2_; have GE102 := n3_; clear n0_ n1_ n2_ n3_; clear hb hbox hg; have hcz10 := blk8 (w := w9) BK102.out))
       go_ret
       exact ⟨by first | rfl | (simp [errW_none, errW_some] <;> rfl) | (simp [*, errW_none, errW_some] <;> rfl), kB1 HB GE102⟩
      ·rw [if_neg c8] at H
       have c8b0 : (a0_6 == 0) = false := beq_eq_false_iff_ne.mpr c8
       have c8b1 : (a0_6 != 0) = true := bne_iff_ne.mpr c8
       obtain rfl := Option.some.inj H
       go_enter Tryd.func44, Tryd.ntmps44
       go_wp2_with (first | ((with_reducible refine gate_dst (N := 2) rfl ?_); (try (refine gate_guard (by rfl) ?_; dsimp only)); refine box_event ?hg (N := 2) ?hd (cs := #[.int .u8 a0_0, .int .i64 a0_1, .int .i64 a0_2, .float .f64 a0_3, .slice A0_4 l0_4.length c0_4, .int .u8 a0_5, .int .i64 a0_6, .int .i64 a0_7]) (t := 65) ?hr ?_; (case hd => rfl); (case hg => rfl); (case hr => first | (go_simp; done) | (go_simp; rfl)); intro gb102 hg w11 hbox hb; have n0_ := Aside0.mk (below_step (kB0 HB) hb); have n1_ := Aside0.mk (hbox); have n2_ := Aside0.mk ((kg hg (kB0 HB) : w.heap.size ≤ gb102)); have n3_ := Aside0.mk ((kg hg (kB0 HB) : w.heap.size ≤ gb102)); clear HB; have HB := n0_; have BK102 := n1_; have GW102 := n2_; have GE102 := n3_; clear n0_ n1_ n2_ n3_; clear hb hbox hg; have hcz12 := blk8 (w := w11) BK102.out))
       go_ret
       exact ⟨by first | rfl | (simp [errW_none, errW_some] <;> rfl) | (simp [*, errW_none, errW_some] <;> rfl), kB1 HB GE102⟩
     ·rw [if_neg c7] at H
      have c7b0 : (a0_5 == 0) = false := beq_eq_false_iff_ne.mpr c7
      have c7b1 : (a0_5 != 0) = true := bne_iff_ne.mpr c7
      obtain rfl := Option.some.inj H
      go_enter Tryd.func44, Tryd.ntmps44
      go_wp2_with (first | ((with_reducible refine gate_dst (N := 2) rfl ?_); (try (refine gate_guard (by rfl) ?_; dsimp only)); refine box_event ?hg (N := 2) ?hd (cs := #[.int .u8 a0_0, .int .i64 a0_1, .int .i64 a0_2, .float .f64 a0_3, .slice A0_4 l0_4.length c0_4, .int .u8 a0_5, .int .i64 a0_6, .int .i64 a0_7]) (t := 65) ?hr ?_; (case hd => rfl); (case hg => rfl); (case hr => first | (go_simp; done) | (go_simp; rfl)); intro gb102 hg w13 hbox hb; have n0_ := Aside0.mk (below_step (kB0 HB) hb); have n1_ := Aside0.mk (hbox); have n2_ := Aside0.mk ((kg hg (kB0 HB) : w.heap.size ≤ gb102)); have n3_ := Aside0.mk ((kg hg (kB0 HB) : w.heap.size ≤ gb102)); clear HB; have HB := n0_; have BK102 := n1_; have GW102 := n2_; have GE102 := n3_; clear n0_ n1_ n2_ n3_; clear hb hbox hg; have hcz14 := blk8 (w := w13) BK102.out))
      go_ret
      exact ⟨by first | rfl | (simp [errW_none, errW_some] <;> rfl) | (simp [*, errW_none, errW_some] <;> rfl), kB1 HB GE102⟩
    ·rw [if_neg c6] at H
     have c6b0 : ((l0_4.length : Int) == 0) = false := beq_eq_false_iff_ne.mpr c6
     have c6b1 : ((l0_4.length : Int) != 0) = true := bne_iff_ne.mpr c6
     have c6b2 : ¬ (l0_4 = []) := fun h_ => c6 (by rw [h_]; rfl)
     obtain rfl := Option.some.inj H
     go_enter Tryd.func44, Tryd.ntmps44
     go_wp2_with (first | ((with_reducible refine gate_dst (N := 2) rfl ?_); (try (refine gate_guard (by rfl) ?_; dsimp only)); refine box_event ?hg (N := 2) ?hd (cs := #[.int .u8 a0_0, .int .i64 a0_1, .int .i64 a0_2, .float .f64 a0_3, .slice A0_4 l0_4.length c0_4, .int .u8 a0_5, .int .i64 a0_6, .int .i64 a0_7]) (t := 65) ?hr ?_; (case hd => rfl); (case hg => rfl); (case hr => first | (go_simp; done) | (go_simp; rfl)); intro gb102 hg w15 hbox hb; have n0_ := Aside0.mk (below_step (kB0 HB) hb); have n1_ := Aside0.mk (hbox); have n2_ := Aside0.mk ((kg hg (kB0 HB) : w.heap.size ≤ gb102)); have n3_ := Aside0.mk ((kg hg (kB0 HB) : w.heap.size ≤ gb102)); clear HB; have HB := n0_; have BK102 := n1_; have GW102 := n2_; have GE102 := n3_; clear n0_ n1_ n2_ n3_; clear hb hbox hg; have hcz16 := blk8 (w := w15) BK102.out))
     go_ret
     exact ⟨by first | rfl | (simp [errW_none, errW_some] <;> rfl) | (simp [*, errW_none, errW_some] <;> rfl), kB1 HB GE102⟩
   ·rw [if_neg c5] at H
    have c5b0 : ((f64bits a0_3) == 0) = false := beq_eq_false_iff_ne.mpr c5
    have c5b1 : ((f64bits a0_3) != 0) = true := bne_iff_ne.mpr c5
    obtain rfl := Option.some.inj H
    go_enter Tryd.func44, Tryd.ntmps44
    go_wp2_with (first | ((with_reducible refine gate_dst (N := 2) rfl ?_); (try (refine gate_guard (by rfl) ?_; dsimp only)); refine box_event ?hg (N := 2) ?hd (cs := #[.int .u8 a0_0, .int .i64 a0_1, .int .i64 a0_2, .float .f64 a0_3, .slice A0_4 l0_4.length c0_4, .int .u8 a0_5, .int .i64 a0_6, .int .i64 a0_7]) (t := 65) ?hr ?_; (case hd => rfl); (case hg => rfl); (case hr => first | (go_simp; done) | (go_simp; rfl)); intro gb102 hg w17 hbox hb; have n0_ := Aside0.mk (below_step (kB0 HB) hb); have n1_ := Aside0.mk (hbox); have n2_ := Aside0.mk ((kg hg (kB0 HB) : w.heap.size ≤ gb102)); have n3_ := Aside0.mk ((kg hg (kB0 HB) : w.heap.size ≤ gb102)); clear HB; have HB := n0_; have BK102 := n1_; have GW102 := n2_; have GE102 := n3_; clear n0_ n1_ n2_ n3_; clear hb hbox hg; have hcz18 := blk8 (w := w17) BK102.out))
    go_ret
    exact ⟨by first | rfl | (simp [errW_none, errW_some] <;> rfl) | (simp [*, errW_none, errW_some] <;> rfl), kB1 HB GE102⟩
  ·rw [if_neg c4] at H
   have c4b0 : (a0_2 == 0) = false := beq_eq_false_iff_ne.mpr c4
   have c4b1 : (a0_2 != 0) = true := bne_iff_ne.mpr c4
   obtain rfl := Option.some.inj H
   go_enter Tryd.func44, Tryd.ntmps44
   go_wp2_with (first | ((with_reducible refine gate_dst (N := 2) rfl ?_); (try (refine gate_guard (by rfl) ?_; dsimp only)); refine box_event ?hg (N := 2) ?hd (cs := #[.int .u8 a0_0, .int .i64 a0_1, .int .i64 a0_2, .float .f64 a0_3, .slice A0_4 l0_4.length c0_4, .int .u8 a0_5, .int .i64 a0_6, .int .i64 a0_7]) (t := 65) ?hr ?_; (case hd => rfl); (case hg => rfl); (case hr => first | (go_simp; done) | (go_simp; rfl)); intro gb102 hg w19 hbox hb; have n0_ := Aside0.mk (below_step (kB0 HB) hb); have n1_ := Aside0.mk (hbox); have n2_ := Aside0.mk ((kg hg (kB0 HB) : w.heap.size ≤ gb102)); have n3_ := Aside0.mk ((kg hg (kB0 HB) : w.heap.size ≤ gb102)); clear HB; have HB := n0_; have BK102 := n1_; have GW102 := n2_; have GE102 := n3_; clear n0_ n1_ n2_ n3_; clear hb hbox hg; have hcz20 := blk8 (w := w19) BK102.out))
   go_ret
   exact ⟨by first | rfl | (simp [errW_none, errW_some] <;> rfl) | (simp [*, errW_none, errW_some] <;> rfl), kB1 HB GE102⟩
 ·rw [if_neg c3] at H
  have c3b0 : (a0_0 == 1) = false := beq_eq_false_iff_ne.mpr c3
  have c3b1 : (a0_0 != 1) = true := bne_iff_ne.mpr c3
  have HC21 := Aside0.mk H
  clear H
  go_enter Tryd.func44, Tryd.ntmps44
  go_upto_region 4 with (first | ((with_reducible refine gate_dst (N := 2) rfl ?_); (try (refine gate_guard (by rfl) ?_; dsimp only)); refine box_event ?hg (N := 2) ?hd (cs := #[.int .u8 a0_0, .int .i64 a0_1, .int .i64 a0_2, .float .f64 a0_3, .slice A0_4 l0_4.length c0_4, .int .u8 a0_5, .int .i64 a0_6, .int .i64 a0_7]) (t := 65) ?hr ?_; (case hd => rfl); (case hg => rfl); (case hr => first | (go_simp; done) | (go_simp; rfl)); intro gb102 hg w22 hbox hb; have n0_ := Aside0.mk (below_step (kB0 HB) hb); have n1_ := Aside0.mk (hbox); have n2_ := Aside0.mk ((kg hg (kB0 HB) : w.heap.size ≤ gb102)); have n3_ := Aside0.mk ((kg hg (kB0 HB) : w.heap.size ≤ gb102)); clear HB; have HB := n0_; have BK102 := n1_; have GW102 := n2_; have GE102 := n3_; clear n0_ n1_ n2_ n3_; clear hb hbox hg; have hcz23 := blk8 (w := w22) BK102.out))
  (try simp only [Act.put, List.setIfInBounds_toArray, List.set_cons_zero, List.set_cons_succ])
  go_cut [92] (fun v92 wc => ∃ (kq : Nat) (x92_20 : Bool), v92 = .bool x92_20 ∧ Aside0 (trees_right.j0 kq ((f64bits a0_3) == 0) x92_20 a0_0 a0_1 a0_2 a0_3 l0_4 a0_5 a0_6 a0_7 = some r) ∧ Aside0 (kq ≤ k) ∧ Aside0 (wc.heap[gb102]? = some (.cells #[.int .u8 a0_0, .int .i64 a0_1, .int .i64 a0_2, .float .f64 a0_3, (.slice A0_4 l0_4.length c0_4), .int .u8 a0_5, .int .i64 a0_6, .int .i64 a0_7] 65 (0, 0))) ∧ Aside0 (Below w.heap.size w wc))
  case first =>
   have H := HC21.out
   clear HC21
   replace H := Option.bind_eq_some_iff.mp H
   obtain ⟨t103, A240, H⟩ := H
   replace H : (if t103 = true then (if a0_1 = 0 then (if a0_2 < 0 then (trees_right.j0 k ((f64bits a0_3) == 0) true a0_0 a0_1 a0_2 a0_3 l0_4 a0_5 a0_6 a0_7) else (if a0_2 ≥ 65536 then (trees_right.j0 k ((f64bits a0_3) == 0) true a0_0 a0_1 a0_2 a0_3 l0_4 a0_5 a0_6 a0_7) else (if a0_5 = 1 then (if a0_6 < 1 then (trees_right.j0 k ((f64bits a0_3) == 0) true a0_0 a0_1 a0_2 a0_3 l0_4 a0_5 a0_6 a0_7) else (if a0_6 ≥ a1 then (trees_right.j0 k ((f64bits a0_3) == 0) true a0_0 a0_1 a0_2 a0_3 l0_4 a0_5 a0_6 a0_7) else (if a0_7 < 1 then (trees_right.j0 k ((f64bits a0_3) == 0) true a0_0 a0_1 a0_2 a0_3 l0_4 a0_5 a0_6 a0_7) else (trees_right.j0 k ((f64bits a0_3) == 0) (decide (a0_7 ≥ a1)) a0_0 a0_1 a0_2 a0_3 l0_4 a0_5 a0_6 a0_7)))) else (if a0_5 = 2 then (if a0_6 < 1 then (trees_right.j0 k ((f64bits a0_3) == 0) true a0_0 a0_1 a0_2 a0_3 l0_4 a0_5 a0_6 a0_7) else (if a0_6 ≥ a1 then (trees_right.j0 k ((f64bits a0_3) == 0) true a0_0 a0_1 a0_2 a0_3 l0_4 a0_5 a0_6 a0_7) else (if a0_7 < 1 then (trees_right.j0 k ((f64bits a0_3) == 0) true a0_0 a0_1 a0_2 a0_3 l0_4 a0_5 a0_6 a0_7) else (trees_right.j0 k ((f64bits a0_3) == 0) (decide (a0_7 ≥ a1)) a0_0 a0_1 a0_2 a0_3 l0_4 a0_5 a0_6 a0_7)))) else (trees_right.j0 k ((f64bits a0_3) == 0) true a0_0 a0_1 a0_2 a0_3 l0_4 a0_5 a0_6 a0_7))))) else (trees_right.j0 k ((f64bits a0_3) == 0) true a0_0 a0_1 a0_2 a0_3 l0_4 a0_5 a0_6 a0_7)) else (trees_right.j0 k ((f64bits a0_3) == 0) true a0_0 a0_1 a0_2 a0_3 l0_4 a0_5 a0_6 a0_7)) = some r := H
   have A24 := Aside0.mk A240
   clear A240
   by_cases c25 : t103 = true
   ·subst c25
    have H1 : (if a0_1 = 0 then (if a0_2 < 0 then (trees_right.j0 k ((f64bits a0_3) == 0) true a0_0 a0_1 a0_2 a0_3 l0_4 a0_5 a0_6 a0_7) else (if a0_2 ≥ 65536 then (trees_right.j0 k ((f64bits a0_3) == 0) true a0_0 a0_1 a0_2 a0_3 l0_4 a0_5 a0_6 a0_7) else (if a0_5 = 1 then (if a0_6 < 1 then (trees_right.j0 k ((f64bits a0_3) == 0) true a0_0 a0_1 a0_2 a0_3 l0_4 a0_5 a0_6 a0_7) else (if a0_6 ≥ a1 then (trees_right.j0 k ((f64bits a0_3) == 0) true a0_0 a0_1 a0_2 a0_3 l0_4 a0_5 a0_6 a0_7) else (if a0_7 < 1 then (trees_right.j0 k ((f64bits a0_3) == 0) true a0_0 a0_1 a0_2 a0_3 l0_4 a0_5 a0_6 a0_7) else (trees_right.j0 k ((f64bits a0_3) == 0) (decide (a0_7 ≥ a1)) a0_0 a0_1 a0_2 a0_3 l0_4 a0_5 a0_6 a0_7)))) else (if a0_5 = 2 then (if a0_6 < 1 then (trees_right.j0 k ((f64bits a0_3) == 0) true a0_0 a0_1 a0_2 a0_3 l0_4 a0_5 a0_6 a0_7) else (if a0_6 ≥ a1 then (trees_right.j0 k ((f64bits a0_3) == 0) true a0_0 a0_1 a0_2 a0_3 l0_4 a0_5 a0_6 a0_7) else (if a0_7 < 1 then (trees_right.j0 k ((f64bits a0_3) == 0) true a0_0 a0_1 a0_2 a0_3 l0_4 a0_5 a0_6 a0_7) else (trees_right.j0 k ((f64bits a0_3) == 0) (decide (a0_7 ≥ a1)) a0_0 a0_1 a0_2 a0_3 l0_4 a0_5 a0_6 a0_7)))) else (trees_right.j0 k ((f64bits a0_3) == 0) true a0_0 a0_1 a0_2 a0_3 l0_4 a0_5 a0_6 a0_7))))) else (trees_right.j0 k ((f64bits a0_3) == 0) true a0_0 a0_1 a0_2 a0_3 l0_4 a0_5 a0_6 a0_7)) = some r := by rw [if_pos rfl] at H; exact H
    clear H
    have H := H1
    clear H1
    by_cases c26 : a0_1 = 0
    ·rw [if_pos c26] at H
     have c26b0 : (a0_1 == 0) = true := beq_iff_eq.mpr c26
     have c26b1 : (a0_1 != 0) = false := bne_eq_false_iff_eq.mpr c26
     clear c26
     (first | rw [c26b0] | (simp only [i64_w, i32_w]; rw [c26b0]) | skip)
     by_cases c27 : a0_2 < 0
     ·rw [if_pos c27] at H
      have c27b0 : decide (a0_2 < 0) = true := decide_eq_true c27
      clear c27
      have H' := Aside0.mk H
      clear H
      have hcz28 := blk8 (w := w22) BK102.out
      go_wp2_with (first | ((with_reducible refine gate_callee (f := 41) rfl ?_); refine goesL_ (some 44) rfl rfl Tryd.func41 (by kernel_rfl) rfl #[.agg #[.int .u8 a0_0, .int .i64 a0_1, .int .i64 a0_2, .float .f64 a0_3, .slice A0_4 l0_4.length c0_4, .int .u8 a0_5, .int .i64 a0_6, .int .i64 a0_7]] rfl (by (try simp only [List.map_toArray, List.map_cons, List.map_nil]); first | done | rfl | (simp only [List.length_drop, List.length_take]; rfl)) ?_; (with_reducible refine (trees_inner.calls a0_0 a0_1 a0_2 a0_3 _ _ l0_4 a0_5 a0_6 a0_7 true _ ?side1 ?side2 A24.out).mono ?_); (case side1 => repeat (first | exact (Kd.C_below HR0_4.out HB.out) | (with_reducible refine Kd.C_alloc ?_ _) | (with_reducible refine Kd.C_drewN ?_ _) | (with_reducible refine Kd.C_drew ?_))); (case side2 => exact HC0_4.out); rintro e w29 ⟨rfl, hb⟩; refine ⟨_, rfl, ?_⟩; have n0_ := Aside0.mk (blk_below (g := gb102) (o := .cells #[.int .u8 a0_0, .int .i64 a0_1, .int .i64 a0_2, .float .f64 a0_3, .slice A0_4 l0_4.length c0_4, .int .u8 a0_5, .int .i64 a0_6, .int .i64 a0_7] 65 (0, 0)) (kb BK102) hb); have n1_ := Aside0.mk (below_step (kB1 HB GE102) hb); clear BK102; clear HB; have BK102 := n0_; have HB := n1_; clear n0_ n1_; (try clear hb); (try clear hb2); (try clear hk); (try clear hi); have hcz30 := blk8 (w := w29) BK102.out))
      go_meet
      case rel => exact ⟨_, (true), kr, H', ⟨ko⟩, ⟨kb BK102⟩, ⟨kB1 HB GE102⟩⟩
     ·rw [if_neg c27] at H
      have c27b0 : decide (a0_2 < 0) = false := decide_eq_false c27
      clear c27
      by_cases c31 : a0_2 ≥ 65536
      ·rw [if_pos c31] at H
       have c31b0 : decide (65536 ≤ a0_2) = true := decide_eq_true c31
       clear c31
       have H' := Aside0.mk H
       clear H
       have hcz32 := blk8 (w := w22) BK102.out
       go_wp2_with (first | ((with_reducible refine gate_callee (f := 41) rfl ?_); refine goesL_ (some 44) rfl rfl Tryd.func41 (by kernel_rfl) rfl #[.agg #[.int .u8 a0_0, .int .i64 a0_1, .int .i64 a0_2, .float .f64 a0_3, .slice A0_4 l0_4.length c0_4, .int .u8 a0_5, .int .i64 a0_6, .int .i64 a0_7]] rfl (by (try simp only [List.map_toArray, List.map_cons, List.map_nil]); first | done | rfl | (simp only [List.length_drop, List.length_take]; rfl)) ?_; (with_reducible refine (trees_inner.calls a0_0 a0_1 a0_2 a0_3 _ _ l0_4 a0_5 a0_6 a0_7 true _ ?side1 ?side2 A24.out).mono ?_); (case side1 => repeat (first | exact (Kd.C_below HR0_4.out HB.out) | (with_reducible refine Kd.C_alloc ?_ _) | (with_reducible refine Kd.C_drewN ?_ _) | (with_reducible refine Kd.C_drew ?_))); (case side2 => exact HC0_4.out); rintro e w33 ⟨rfl, hb⟩; refine ⟨_, rfl, ?_⟩; have n0_ := Aside0.mk (blk_below (g := gb102) (o := .cells #[.int .u8 a0_0, .int .i64 a0_1, .int .i64 a0_2, .float .f64 a0_3, .slice A0_4 l0_4.length c0_4, .int .u8 a0_5, .int .i64 a0_6, .int .i64 a0_7] 65 (0, 0)) (kb BK102) hb); have n1_ := Aside0.mk (below_step (kB1 HB GE102) hb); clear BK102; clear HB; have BK102 := n0_; have HB := n1_; clear n0_ n1_; (try clear hb); (try clear hb2); (try clear hk); (try clear hi); have hcz34 := blk8 (w := w33) BK102.out))
       go_meet
       case rel => exact ⟨_, (true), kr, H', ⟨ko⟩, ⟨kb BK102⟩, ⟨kB1 HB GE102⟩⟩
      ·rw [if_neg c31] at H
       have c31b0 : decide (65536 ≤ a0_2) = false := decide_eq_false c31
       clear c31
       by_cases c35 : a0_5 = 1
       ·rw [if_pos c35] at H
        have c35b0 : (a0_5 == 1) = true := beq_iff_eq.mpr c35
        have c35b1 : (a0_5 != 1) = false := bne_eq_false_iff_eq.mpr c35
        clear c35
        by_cases c36 : a0_6 < 1
        ·rw [if_pos c36] at H
         have c36b0 : decide (a0_6 < 1) = true := decide_eq_true c36
         clear c36
         have H' := Aside0.mk H
         clear H
         have hcz37 := blk8 (w := w22) BK102.out
         go_wp2_with (first | ((with_reducible refine gate_callee (f := 41) rfl ?_); refine goesL_ (some 44) rfl rfl Tryd.func41 (by kernel_rfl) rfl #[.agg #[.int .u8 a0_0, .int .i64 a0_1, .int .i64 a0_2, .float .f64 a0_3, .slice A0_4 l0_4.length c0_4, .int .u8 a0_5, .int .i64 a0_6, .int .i64 a0_7]] rfl (by (try simp only [List.map_toArray, List.map_cons, List.map_nil]); first | done | rfl | (simp only [List.length_drop, List.length_take]; rfl)) ?_; (with_reducible refine (trees_inner.calls a0_0 a0_1 a0_2 a0_3 _ _ l0_4 a0_5 a0_6 a0_7 true _ ?side1 ?side2 A24.out).mono ?_); (case side1 => repeat (first | exact (Kd.C_below HR0_4.out HB.out) | (with_reducible refine Kd.C_alloc ?_ _) | (with_reducible refine Kd.C_drewN ?_ _) | (with_reducible refine Kd.C_drew ?_))); (case side2 => exact HC0_4.out); rintro e w38 ⟨rfl, hb⟩; refine ⟨_, rfl, ?_⟩; have n0_ := Aside0.mk (blk_below (g := gb102) (o := .cells #[.int .u8 a0_0, .int .i64 a0_1, .int .i64 a0_2, .float .f64 a0_3, .slice A0_4 l0_4.length c0_4, .int .u8 a0_5, .int .i64 a0_6, .int .i64 a0_7] 65 (0, 0)) (kb BK102) hb); have n1_ := Aside0.mk (below_step (kB1 HB GE102) hb); clear BK102; clear HB; have BK102 := n0_; have HB := n1_; clear n0_ n1_; (try clear hb); (try clear hb2); (try clear hk); (try clear hi); have hcz39 := blk8 (w := w38) BK102.out))
         go_meet
         case rel => exact ⟨_, (true), kr, H', ⟨ko⟩, ⟨kb BK102⟩, ⟨kB1 HB GE102⟩⟩
        ·rw [if_neg c36] at H
         have c36b0 : decide (a0_6 < 1) = false := decide_eq_false c36
         clear c36
         by_cases c40 : a0_6 ≥ a1
         ·rw [if_pos c40] at H
          have c40b0 : decide (a1 ≤ a0_6) = true := decide_eq_true c40
          clear c40
          have H' := Aside0.mk H
          clear H
          have hcz41 := blk8 (w := w22) BK102.out
          go_wp2_with (first | ((with_reducible refine gate_callee (f := 41) rfl ?_); refine goesL_ (some 44) rfl rfl Tryd.func41 (by kernel_rfl) rfl #[.agg #[.int .u8 a0_0, .int .i64 a0_1, .int .i64 a0_2, .float .f64 a0_3, .slice A0_4 l0_4.length c0_4, .int .u8 a0_5, .int .i64 a0_6, .int .i64 a0_7]] rfl (by (try simp only [List.map_toArray, List.map_cons, List.map_nil]); first | done | rfl | (simp only [List.length_drop, List.length_take]; rfl)) ?_; (with_reducible refine (trees_inner.calls a0_0 a0_1 a0_2 a0_3 _ _ l0_4 a0_5 a0_6 a0_7 true _ ?side1 ?side2 A24.out).mono ?_); (case side1 => repeat (first | exact (Kd.C_below HR0_4.out HB.out) | (with_reducible refine Kd.C_alloc ?_ _) | (with_reducible refine Kd.C_drewN ?_ _) | (with_reducible refine Kd.C_drew ?_))); (case side2 => exact HC0_4.out); rintro e w42 ⟨rfl, hb⟩; refine ⟨_, rfl, ?_⟩; have n0_ := Aside0.mk (blk_below (g := gb102) (o := .cells #[.int .u8 a0_0, .int .i64 a0_1, .int .i64 a0_2, .float .f64 a0_3, .slice A0_4 l0_4.length c0_4, .int .u8 a0_5, .int .i64 a0_6, .int .i64 a0_7] 65 (0, 0)) (kb BK102) hb); have n1_ := Aside0.mk (below_step (kB1 HB GE102) hb); clear BK102; clear HB; have BK102 := n0_; have HB := n1_; clear n0_ n1_; (try clear hb); (try clear hb2); (try clear hk); (try clear hi); have hcz43 := blk8 (w := w42) BK102.out))
          go_meet
          case rel => exact ⟨_, (true), kr, H', ⟨ko⟩, ⟨kb BK102⟩, ⟨kB1 HB GE102⟩⟩
         ·rw [if_neg c40] at H
          have c40b0 : decide (a1 ≤ a0_6) = false := decide_eq_false c40
          clear c40
          by_cases c44 : a0_7 < 1
          ·rw [if_pos c44] at H
           have c44b0 : decide (a0_7 < 1) = true := decide_eq_true c44
           clear c44
           have H' := Aside0.mk H
           clear H
           have hcz45 := blk8 (w := w22) BK102.out
           go_wp2_with (first | ((with_reducible refine gate_callee (f := 41) rfl ?_); refine goesL_ (some 44) rfl rfl Tryd.func41 (by kernel_rfl) rfl #[.agg #[.int .u8 a0_0, .int .i64 a0_1, .int .i64 a0_2, .float .f64 a0_3, .slice A0_4 l0_4.length c0_4, .int .u8 a0_5, .int .i64 a0_6, .int .i64 a0_7]] rfl (by (try simp only [List.map_toArray, List.map_cons, List.map_nil]); first | done | rfl | (simp only [List.length_drop, List.length_take]; rfl)) ?_; (with_reducible refine (trees_inner.calls a0_0 a0_1 a0_2 a0_3 _ _ l0_4 a0_5 a0_6 a0_7 true _ ?side1 ?side2 A24.out).mono ?_); (case side1 => repeat (first | exact (Kd.C_below HR0_4.out HB.out) | (with_reducible refine Kd.C_alloc ?_ _) | (with_reducible refine Kd.C_drewN ?_ _) | (with_reducible refine Kd.C_drew ?_))); (case side2 => exact HC0_4.out); rintro e w46 ⟨rfl, hb⟩; refine ⟨_, rfl, ?_⟩; have n0_ := Aside0.mk (blk_below (g := gb102) (o := .cells #[.int .u8 a0_0, .int .i64 a0_1, .int .i64 a0_2, .float .f64 a0_3, .slice A0_4 l0_4.length c0_4, .int .u8 a0_5, .int .i64 a0_6, .int .i64 a0_7] 65 (0, 0)) (kb BK102) hb); have n1_ := Aside0.mk (below_step (kB1 HB GE102) hb); clear BK102; clear HB; have BK102 := n0_; have HB := n1_; clear n0_ n1_; (try clear hb); (try clear hb2); (try clear hk); (try clear hi); have hcz47 := blk8 (w := w46) BK102.out))
           go_meet
           case rel => exact ⟨_, (true), kr, H', ⟨ko⟩, ⟨kb BK102⟩, ⟨kB1 HB GE102⟩⟩
          ·rw [if_neg c44] at H
           have c44b0 : decide (a0_7 < 1) = false := decide_eq_false c44
           clear c44
           have H' := Aside0.mk H
           clear H
           have hcz48 := blk8 (w := w22) BK102.out
           go_wp2_with (first | ((with_reducible refine gate_callee (f := 41) rfl ?_); refine goesL_ (some 44) rfl rfl Tryd.func41 (by kernel_rfl) rfl #[.agg #[.int .u8 a0_0, .int .i64 a0_1, .int .i64 a0_2, .float .f64 a0_3, .slice A0_4 l0_4.length c0_4, .int .u8 a0_5, .int .i64 a0_6, .int .i64 a0_7]] rfl (by (try simp only [List.map_toArray, List.map_cons, List.map_nil]); first | done | rfl | (simp only [List.length_drop, List.length_take]; rfl)) ?_; (with_reducible refine (trees_inner.calls a0_0 a0_1 a0_2 a0_3 _ _ l0_4 a0_5 a0_6 a0_7 true _ ?side1 ?side2 A24.out).mono ?_); (case side1 => repeat (first | exact (Kd.C_below HR0_4.out HB.out) | (with_reducible refine Kd.C_alloc ?_ _) | (with_reducible refine Kd.C_drewN ?_ _) | (with_reducible refine Kd.C_drew ?_))); (case side2 => exact HC0_4.out); rintro e w49 ⟨rfl, hb⟩; refine ⟨_, rfl, ?_⟩; have n0_ := Aside0.mk (blk_below (g := gb102) (o := .cells #[.int .u8 a0_0, .int .i64 a0_1, .int .i64 a0_2, .float .f64 a0_3, .slice A0_4 l0_4.length c0_4, .int .u8 a0_5, .int .i64 a0_6, .int .i64 a0_7] 65 (0, 0)) (kb BK102) hb); have n1_ := Aside0.mk (below_step (kB1 HB GE102) hb); clear BK102; clear HB; have BK102 := n0_; have HB := n1_; clear n0_ n1_; (try clear hb); (try clear hb2); (try clear hk); (try clear hi); have hcz50 := blk8 (w := w49) BK102.out))
           go_meet
           case rel => exact ⟨_, (decide (a0_7 ≥ a1)), kr, H', ⟨ko⟩, ⟨kb BK102⟩, ⟨kB1 HB GE102⟩⟩
       ·rw [if_neg c35] at H
        have c35b0 : (a0_5 == 1) = false := beq_eq_false_iff_ne.mpr c35
        have c35b1 : (a0_5 != 1) = true := bne_iff_ne.mpr c35
        by_cases c51 : a0_5 = 2
        ·rw [if_pos c51] at H
         have c51b0 : (a0_5 == 2) = true := beq_iff_eq.mpr c51
         have c51b1 : (a0_5 != 2) = false := bne_eq_false_iff_eq.mpr c51
         clear c51
         by_cases c52 : a0_6 < 1
         ·rw [if_pos c52] at H
          have c52b0 : decide (a0_6 < 1) = true := decide_eq_true c52
          clear c52
          have H' := Aside0.mk H
          clear H
          have hcz53 := blk8 (w := w22) BK102.out
          go_wp2_with (first | ((with_reducible refine gate_callee (f := 41) rfl ?_); refine goesL_ (some 44) rfl rfl Tryd.func41 (by kernel_rfl) rfl #[.agg #[.int .u8 a0_0, .int .i64 a0_1, .int .i64 a0_2, .float .f64 a0_3, .slice A0_4 l0_4.length c0_4, .int .u8 a0_5, .int .i64 a0_6, .int .i64 a0_7]] rfl (by (try simp only [List.map_toArray, List.map_cons, List.map_nil]); first | done | rfl | (simp only [List.length_drop, List.length_take]; rfl)) ?_; (with_reducible refine (trees_inner.calls a0_0 a0_1 a0_2 a0_3 _ _ l0_4 a0_5 a0_6 a0_7 true _ ?side1 ?side2 A24.out).mono ?_); (case side1 => repeat (first | exact (Kd.C_below HR0_4.out HB.out) | (with_reducible refine Kd.C_alloc ?_ _) | (with_reducible refine Kd.C_drewN ?_ _) | (with_reducible refine Kd.C_drew ?_))); (case side2 => exact HC0_4.out); rintro e w54 ⟨rfl, hb⟩; refine ⟨_, rfl, ?_⟩; have n0_ := Aside0.mk (blk_below (g := gb102) (o := .cells #[.int .u8 a0_0, .int .i64 a0_1, .int .i64 a0_2, .float .f64 a0_3, .slice A0_4 l0_4.length c0_4, .int .u8 a0_5, .int .i64 a0_6, .int .i64 a0_7] 65 (0, 0)) (kb BK102) hb); have n1_ := Aside0.mk (below_step (kB1 HB GE102) hb); clear BK102; clear HB; have BK102 := n0_; have HB := n1_; clear n0_ n1_; (try clear hb); (try clear hb2); (try clear hk); (try clear hi); have hcz55 := blk8 (w := w54) BK102.out))
          go_meet
          case rel => exact ⟨_, (true), kr, H', ⟨ko⟩, ⟨kb BK102⟩, ⟨kB1 HB GE102⟩⟩
         ·rw [if_neg c52] at H
          have c52b0 : decide (a0_6 < 1) = false := decide_eq_false c52
          clear c52
          by_cases c56 : a0_6 ≥ a1
          ·rw [if_pos c56] at H
           have c56b0 : decide (a1 ≤ a0_6) = true := decide_eq_true c56
           clear c56
           have H' := Aside0.mk H
           clear H
           have hcz57 := blk8 (w := w22) BK102.out
           go_wp2_with (first | ((with_reducible refine gate_callee (f := 41) rfl ?_); refine goesL_ (some 44) rfl rfl Tryd.func41 (by kernel_rfl) rfl #[.agg #[.int .u8 a0_0, .int .i64 a0_1, .int .i64 a0_2, .float .f64 a0_3, .slice A0_4 l0_4.length c0_4, .int .u8 a0_5, .int .i64 a0_6, .int .i64 a0_7]] rfl (by (try simp only [List.map_toArray, List.map_cons, List.map_nil]); first | done | rfl | (simp only [List.length_drop, List.length_take]; rfl)) ?_; (with_reducible refine (trees_inner.calls a0_0 a0_1 a0_2 a0_3 _ _ l0_4 a0_5 a0_6 a0_7 true _ ?side1 ?side2 A24.out).mono ?_); (case side1 => repeat (first | exact (Kd.C_below HR0_4.out HB.out) | (with_reducible refine Kd.C_alloc ?_ _) | (with_reducible refine Kd.C_drewN ?_ _) | (with_reducible refine Kd.C_drew ?_))); (case side2 => exact HC0_4.out); rintro e w58 ⟨rfl, hb⟩; refine ⟨_, rfl, ?_⟩; have n0_ := Aside0.mk (blk_below (g := gb102) (o := .cells #[.int .u8 a0_0, .int .i64 a0_1, .int .i64 a0_2, .float .f64 a0_3, .slice A0_4 l0_4.length c0_4, .int .u8 a0_5, .int .i64 a0_6, .int .i64 a0_7] 65 (0, 0)) (kb BK102) hb); have n1_ := Aside0.mk (below_step (kB1 HB GE102) hb); clear BK102; clear HB; have BK102 := n0_; have HB := n1_; clear n0_ n1_; (try clear hb); (try clear hb2); (try clear hk); (try clear hi); have hcz59 := blk8 (w := w58) BK102.out))
           go_meet
           case rel => exact ⟨_, (true), kr, H', ⟨ko⟩, ⟨kb BK102⟩, ⟨kB1 HB GE102⟩⟩
          ·rw [if_neg c56] at H
           have c56b0 : decide (a1 ≤ a0_6) = false := decide_eq_false c56
           clear c56
           by_cases c60 : a0_7 < 1
           ·rw [if_pos c60] at H
            have c60b0 : decide (a0_7 < 1) = true := decide_eq_true c60
            clear c60
            have H' := Aside0.mk H
            clear H
            have hcz61 := blk8 (w := w22) BK102.out
            go_wp2_with (first | ((with_reducible refine gate_callee (f := 41) rfl ?_); refine goesL_ (some 44) rfl rfl Tryd.func41 (by kernel_rfl) rfl #[.agg #[.int .u8 a0_0, .int .i64 a0_1, .int .i64 a0_2, .float .f64 a0_3, .slice A0_4 l0_4.length c0_4, .int .u8 a0_5, .int .i64 a0_6, .int .i64 a0_7]] rfl (by (try simp only [List.map_toArray, List.map_cons, List.map_nil]); first | done | rfl | (simp only [List.length_drop, List.length_take]; rfl)) ?_; (with_reducible refine (trees_inner.calls a0_0 a0_1 a0_2 a0_3 _ _ l0_4 a0_5 a0_6 a0_7 true _ ?side1 ?side2 A24.out).mono ?_); (case side1 => repeat (first | exact (Kd.C_below HR0_4.out HB.out) | (with_reducible refine Kd.C_alloc ?_ _) | (with_reducible refine Kd.C_drewN ?_ _) | (with_reducible refine Kd.C_drew ?_))); (case side2 => exact HC0_4.out); rintro e w62 ⟨rfl, hb⟩; refine ⟨_, rfl, ?_⟩; have n0_ := Aside0.mk (blk_below (g := gb102) (o := .cells #[.int .u8 a0_0, .int .i64 a0_1, .int .i64 a0_2, .float .f64 a0_3, .slice A0_4 l0_4.length c0_4, .int .u8 a0_5, .int .i64 a0_6, .int .i64 a0_7] 65 (0, 0)) (kb BK102) hb); have n1_ := Aside0.mk (below_step (kB1 HB GE102) hb); clear BK102; clear HB; have BK102 := n0_; have HB := n1_; clear n0_ n1_; (try clear hb); (try clear hb2); (try clear hk); (try clear hi); have hcz63 := blk8 (w := w62) BK102.out))
            go_meet
            case rel => exact ⟨_, (true), kr, H', ⟨ko⟩, ⟨kb BK102⟩, ⟨kB1 HB GE102⟩⟩
           ·rw [if_neg c60] at H
            have c60b0 : decide (a0_7 < 1) = false := decide_eq_false c60
            clear c60
            have H' := Aside0.mk H
            clear H
            have hcz64 := blk8 (w := w22) BK102.out
            go_wp2_with (first | ((with_reducible refine gate_callee (f := 41) rfl ?_); refine goesL_ (some 44) rfl rfl Tryd.func41 (by kernel_rfl) rfl #[.agg #[.int .u8 a0_0, .int .i64 a0_1, .int .i64 a0_2, .float .f64 a0_3, .slice A0_4 l0_4.length c0_4, .int .u8 a0_5, .int .i64 a0_6, .int .i64 a0_7]] rfl (by (try simp only [List.map_toArray, List.map_cons, List.map_nil]); first | done | rfl | (simp only [List.length_drop, List.length_take]; rfl)) ?_; (with_reducible refine (trees_inner.calls a0_0 a0_1 a0_2 a0_3 _ _ l0_4 a0_5 a0_6 a0_7 true _ ?side1 ?side2 A24.out).mono ?_); (case side1 => repeat (first | exact (Kd.C_below HR0_4.out HB.out) | (with_reducible refine Kd.C_alloc ?_ _) | (with_reducible refine Kd.C_drewN ?_ _) | (with_reducible refine Kd.C_drew ?_))); (case side2 => exact HC0_4.out); rintro e w65 ⟨rfl, hb⟩; refine ⟨_, rfl, ?_⟩; have n0_ := Aside0.mk (blk_below (g := gb102) (o := .cells #[.int .u8 a0_0, .int .i64 a0_1, .int .i64 a0_2, .float .f64 a0_3, .slice A0_4 l0_4.length c0_4, .int .u8 a0_5, .int .i64 a0_6, .int .i64 a0_7] 65 (0, 0)) (kb BK102) hb); have n1_ := Aside0.mk (below_step (kB1 HB GE102) hb); clear BK102; clear HB; have BK102 := n0_; have HB := n1_; clear n0_ n1_; (try clear hb); (try clear hb2); (try clear hk); (try clear hi); have hcz66 := blk8 (w := w65) BK102.out))
            go_meet
            case rel => exact ⟨_, (decide (a0_7 ≥ a1)), kr, H', ⟨ko⟩, ⟨kb BK102⟩, ⟨kB1 HB GE102⟩⟩
        ·rw [if_neg c51] at H
         have c51b0 : (a0_5 == 2) = false := beq_eq_false_iff_ne.mpr c51
         have c51b1 : (a0_5 != 2) = true := bne_iff_ne.mpr c51
         have H' := Aside0.mk H
         clear H
         have hcz67 := blk8 (w := w22) BK102.out
         go_wp2_with (first | ((with_reducible refine gate_callee (f := 41) rfl ?_); refine goesL_ (some 44) rfl rfl Tryd.func41 (by kernel_rfl) rfl #[.agg #[.int .u8 a0_0, .int .i64 a0_1, .int .i64 a0_2, .float .f64 a0_3, .slice A0_4 l0_4.length c0_4, .int .u8 a0_5, .int .i64 a0_6, .int .i64 a0_7]] rfl (by (try simp only [List.map_toArray, List.map_cons, List.map_nil]); first | done | rfl | (simp only [List.length_drop, List.length_take]; rfl)) ?_; (with_reducible refine (trees_inner.calls a0_0 a0_1 a0_2 a0_3 _ _ l0_4 a0_5 a0_6 a0_7 true _ ?side1 ?side2 A24.out).mono ?_); (case side1 => repeat (first | exact (Kd.C_below HR0_4.out HB.out) | (with_reducible refine Kd.C_alloc ?_ _) | (with_reducible refine Kd.C_drewN ?_ _) | (with_reducible refine Kd.C_drew ?_))); (case side2 => exact HC0_4.out); rintro e w68 ⟨rfl, hb⟩; refine ⟨_, rfl, ?_⟩; have n0_ := Aside0.mk (blk_below (g := gb102) (o := .cells #[.int .u8 a0_0, .int .i64 a0_1, .int .i64 a0_2, .float .f64 a0_3, .slice A0_4 l0_4.length c0_4, .int .u8 a0_5, .int .i64 a0_6, .int .i64 a0_7] 65 (0, 0)) (kb BK102) hb); have n1_ := Aside0.mk (below_step (kB1 HB GE102) hb); clear BK102; clear HB; have BK102 := n0_; have HB := n1_; clear n0_ n1_; (try clear hb); (try clear hb2); (try clear hk); (try clear hi); have hcz69 := blk8 (w := w68) BK102.out))
         go_meet
         case rel => exact ⟨_, (true), kr, H', ⟨ko⟩, ⟨kb BK102⟩, ⟨kB1 HB GE102⟩⟩
    ·rw [if_neg c26] at H
     have c26b0 : (a0_1 == 0) = false := beq_eq_false_iff_ne.mpr c26
     have c26b1 : (a0_1 != 0) = true := bne_iff_ne.mpr c26
     (first | rw [c26b0] | (simp only [i64_w, i32_w]; rw [c26b0]) | skip)
     have H' := Aside0.mk H
     clear H
     have hcz70 := blk8 (w := w22) BK102.out
     go_wp2_with (first | ((with_reducible refine gate_callee (f := 41) rfl ?_); refine goesL_ (some 44) rfl rfl Tryd.func41 (by kernel_rfl) rfl #[.agg #[.int .u8 a0_0, .int .i64 a0_1, .int .i64 a0_2, .float .f64 a0_3, .slice A0_4 l0_4.length c0_4, .int .u8 a0_5, .int .i64 a0_6, .int .i64 a0_7]] rfl (by (try simp only [List.map_toArray, List.map_cons, List.map_nil]); first | done | rfl | (simp only [List.length_drop, List.length_take]; rfl)) ?_; (with_reducible refine (trees_inner.calls a0_0 a0_1 a0_2 a0_3 _ _ l0_4 a0_5 a0_6 a0_7 true _ ?side1 ?side2 A24.out).mono ?_); (case side1 => repeat (first | exact (Kd.C_below HR0_4.out HB.out) | (with_reducible refine Kd.C_alloc ?_ _) | (with_reducible refine Kd.C_drewN ?_ _) | (with_reducible refine Kd.C_drew ?_))); (case side2 => exact HC0_4.out); rintro e w71 ⟨rfl, hb⟩; refine ⟨_, rfl, ?_⟩; have n0_ := Aside0.mk (blk_below (g := gb102) (o := .cells #[.int .u8 a0_0, .int .i64 a0_1, .int .i64 a0_2, .float .f64 a0_3, .slice A0_4 l0_4.length c0_4, .int .u8 a0_5, .int .i64 a0_6, .int .i64 a0_7] 65 (0, 0)) (kb BK102) hb); have n1_ := Aside0.mk (below_step (kB1 HB GE102) hb); clear BK102; clear HB; have BK102 := n0_; have HB := n1_; clear n0_ n1_; (try clear hb); (try clear hb2); (try clear hk); (try clear hi); have hcz72 := blk8 (w := w71) BK102.out))
     go_meet
     case rel => exact ⟨_, (true), kr, H', ⟨ko⟩, ⟨kb BK102⟩, ⟨kB1 HB GE102⟩⟩
   ·replace c25 := Bool.eq_false_iff.mpr c25
    subst c25
    have H1 : (trees_right.j0 k ((f64bits a0_3) == 0) true a0_0 a0_1 a0_2 a0_3 l0_4 a0_5 a0_6 a0_7) = some r := by rw [if_neg (show ¬ (false = true) by decide)] at H; exact H
    clear H
    have H := H1
    clear H1
    have H' := Aside0.mk H
    clear H
    have hcz73 := blk8 (w := w22) BK102.out
    go_wp2_with (first | ((with_reducible refine gate_callee (f := 41) rfl ?_); refine goesL_ (some 44) rfl rfl Tryd.func41 (by kernel_rfl) rfl #[.agg #[.int .u8 a0_0, .int .i64 a0_1, .int .i64 a0_2, .float .f64 a0_3, .slice A0_4 l0_4.length c0_4, .int .u8 a0_5, .int .i64 a0_6, .int .i64 a0_7]] rfl (by (try simp only [List.map_toArray, List.map_cons, List.map_nil]); first | done | rfl | (simp only [List.length_drop, List.length_take]; rfl)) ?_; (with_reducible refine (trees_inner.calls a0_0 a0_1 a0_2 a0_3 _ _ l0_4 a0_5 a0_6 a0_7 false _ ?side1 ?side2 A24.out).mono ?_); (case side1 => repeat (first | exact (Kd.C_below HR0_4.out HB.out) | (with_reducible refine Kd.C_alloc ?_ _) | (with_reducible refine Kd.C_drewN ?_ _) | (with_reducible refine Kd.C_drew ?_))); (case side2 => exact HC0_4.out); rintro e w74 ⟨rfl, hb⟩; refine ⟨_, rfl, ?_⟩; have n0_ := Aside0.mk (blk_below (g := gb102) (o := .cells #[.int .u8 a0_0, .int .i64 a0_1, .int .i64 a0_2, .float .f64 a0_3, .slice A0_4 l0_4.length c0_4, .int .u8 a0_5, .int .i64 a0_6, .int .i64 a0_7] 65 (0, 0)) (kb BK102) hb); have n1_ := Aside0.mk (below_step (kB1 HB GE102) hb); clear BK102; clear HB; have BK102 := n0_; have HB := n1_; clear n0_ n1_; (try clear hb); (try clear hb2); (try clear hk); (try clear hi)))
    go_meet
    case rel => exact ⟨_, (true), kr, H', ⟨ko⟩, ⟨kb BK102⟩, ⟨kB1 HB GE102⟩⟩
  case rest =>
   clear HC21
   try clear c2
   try clear p2
   try clear c3
   try clear c3b0
   try clear c3b1
   try clear c4
   try clear c4b0
   try clear c4b1
   try clear c5
   try clear c5b0
   try clear c5b1
   try clear c6
   try clear c6b0
   try clear c6b1
   try clear c6b2
   try clear c7
   try clear c7b0
   try clear c7b1
   try clear c8
   try clear c8b0
   try clear c8b1
   try clear c25
   try clear c26
   try clear c26b0
   try clear c26b1
   try clear c27
   try clear c27b0
   try clear c31
   try clear c31b0
   try clear c35
   try clear c35b0
   try clear c35b1
   try clear c36
   try clear c36b0
   try clear c40
   try clear c40b0
   try clear c41
   try clear c44
   try clear c44b0
   try clear c51
   try clear c51b0
   try clear c51b1
   try clear c52
   try clear c52b0
   try clear c56
   try clear c56b0
   try clear c60
   try clear c60b0
   try clear hcz10
   try clear hcz12
   try clear hcz14
   try clear hcz16
   try clear hcz18
   try clear hcz20
   try clear hcz23
   try clear hcz28
   try clear hcz30
   try clear hcz32
   try clear hcz34
   try clear hcz37
   try clear hcz39
   try clear hcz41
   try clear hcz43
   try clear hcz45
   try clear hcz47
   try clear hcz48
   try clear hcz50
   try clear hcz53
   try clear hcz55
   try clear hcz57
   try clear hcz59
   try clear hcz61
   try clear hcz63
   try clear hcz64
   try clear hcz66
   try clear hcz67
   try clear hcz69
   try clear hcz70
   try clear hcz72
   try clear hcz73
   obtain ⟨kq, x92_20, rfl, HA, HJ20, BK102, HB⟩ := hcut
   cases kq with
   | zero => exact absurd HA.out (by simp [trees_right.j0])
   | succ kj20 =>
    have H := HA.out
    clear HA
    simp only [trees_right.j0] at H
    by_cases c75 : x92_20 = true
    ·subst c75
     have H1 : (some false) = some r := by rw [if_pos rfl] at H; exact H
     clear H
     have H := H1
     clear H1
     obtain rfl := Option.some.inj H
     go_wp2
     go_ret
     exact ⟨by first | rfl | (simp [errW_none, errW_some] <;> rfl) | (simp [*, errW_none, errW_some] <;> rfl), kB1 HB GE102⟩
    ·replace c75 := Bool.eq_false_iff.mpr c75
     subst c75
     have H1 : (if a0_0 = 2 then (if (feq a0_3 a0_3) = true then (some ((l0_4.length : Int) == 0)) else (some false)) else (trees_right.l0 kj20 ((f64bits a0_3) == 0) (-1) l0_4 (l0_4.length : Int) 0)) = some r := by rw [if_neg (show ¬ (false = true) by decide)] at H; exact H
     clear H
     have H := H1
     clear H1
     by_cases c76 : a0_0 = 2
     ·rw [if_pos c76] at H
      have c76b0 : (a0_0 == 2) = true := beq_iff_eq.mpr c76
      have c76b1 : (a0_0 != 2) = false := bne_eq_false_iff_eq.mpr c76
      clear c76
      by_cases c77 : (feq a0_3 a0_3) = true
      ·rw [if_pos c77] at H
       have c77b0 : (feq a0_3 a0_3) = true := c77
       clear c77
       obtain rfl := Option.some.inj H
       have hcz78 := blk8 (w := wc) BK102.out
       go_wp2
       go_ret
       exact ⟨by first | rfl | (simp [errW_none, errW_some] <;> rfl) | (simp [*, errW_none, errW_some] <;> rfl), kB1 HB GE102⟩
      ·rw [if_neg c77] at H
       have c77b0 : (feq a0_3 a0_3) = false := by simpa using c77
       clear c77
       obtain rfl := Option.some.inj H
       have hcz79 := blk8 (w := wc) BK102.out
       go_wp2
       go_ret
       exact ⟨by first | rfl | (simp [errW_none, errW_some] <;> rfl) | (simp [*, errW_none, errW_some] <;> rfl), kB1 HB GE102⟩
     ·rw [if_neg c76] at H
      have c76b0 : (a0_0 == 2) = false := beq_eq_false_iff_ne.mpr c76
      have c76b1 : (a0_0 != 2) = true := bne_iff_ne.mpr c76
      have H' := Aside0.mk H
      clear H
      have hcz80 := blk8 (w := wc) BK102.out
      go_wp2
      go_loopg [6, 110] kj20 (fun kq v6 v110 w' => ∃ (x6_2 : Int) (x110_2 : Int), v6 = .int .i64 x6_2 ∧ v110 = .int .i64 x110_2 ∧ Aside0 (trees_right.l0 kq ((f64bits a0_3) == 0) x6_2 l0_4 (l0_4.length : Int) x110_2 = some r) ∧ Aside0 (kq ≤ kj20) ∧ Aside0 (w'.heap[gb102]? = some (.cells #[.int .u8 a0_0, .int .i64 a0_1, .int .i64 a0_2, .float .f64 a0_3, (.slice A0_4 l0_4.length c0_4), .int .u8 a0_5, .int .i64 a0_6, .int .i64 a0_7] 65 (0, 0))) ∧ Aside0 (Below w.heap.size w w'))
      case atStart => exact ⟨((-1)), (0), kr, kr, H', ⟨Nat.le_refl _⟩, ⟨kb BK102⟩, ⟨kB1 HB GE102⟩⟩
      case round =>
       clear H'
       try clear p2
       try clear c7
       try clear c75
       try clear c76
       try clear c76b0
       try clear c76b1
       try clear c77
       try clear c77b0
       try clear hcz12
       try clear hcz14
       try clear hcz16
       try clear hcz18
       try clear hcz20
       try clear hcz23
       try clear hcz28
       try clear hcz30
       try clear hcz32
       try clear hcz34
       try clear hcz37
       try clear hcz39
       try clear hcz41
       try clear hcz43
       try clear hcz45
       try clear hcz47
       try clear hcz48
       try clear hcz50
       try clear hcz53
       try clear hcz55
       try clear hcz57
       try clear hcz59
       try clear hcz61
       try clear hcz63
       try clear hcz64
       try clear hcz66
       try clear hcz67
       try clear hcz69
       try clear hcz70
       try clear hcz72
       try clear hcz73
       try clear hcz78
       try clear hcz79
       try clear hcz80
       obtain ⟨x6_2, x110_2, rfl, rfl, HA, HK2, BK102, HB⟩ := hrel
       cases gk with
       | zero => exact absurd HA.out (by simp [trees_right.l0])
       | succ k2 =>
        have H := HA.out
        clear HA
        simp only [trees_right.l0] at H
        by_cases c81 : x110_2 < (l0_4.length : Int)
        ·rw [if_pos c81] at H
         have c81b0 : decide (x110_2 < (l0_4.length : Int)) = true := decide_eq_true c81
         clear c81
         by_cases c82 : 0 ≤ x110_2
         ·rw [if_pos c82] at H
          have c82b0 : decide (0 ≤ x110_2) = true := decide_eq_true c82
          clear c82
          by_cases c83 : x110_2 < (l0_4.length : Int)
          ·rw [if_pos c83] at H
           have c83b0 : decide (x110_2 < (l0_4.length : Int)) = true := decide_eq_true c83
           clear c83
           by_cases c84 : (rd l0_4 x110_2) ≤ x6_2
           ·rw [if_pos c84] at H
            have c84b0 : decide ((rd l0_4 x110_2) ≤ x6_2) = true := decide_eq_true c84
            clear c84
            obtain rfl := Option.some.inj H
            have p104 : 0 ≤ (x110_2 : Int) := of_decide_eq_true ka
            have q104 : x110_2 < (l0_4.length : Int) := of_decide_eq_true ka
            obtain ⟨ad104, e104, hx104_0⟩ := Kd.at_int HR0_4.out x110_2 p104 q104
            cases e104
            replace hx104_0 := (HB.out.cell (World.block_lt_of_cell? w _ hx104_0)).trans hx104_0
            replace p104 := eq_true p104
            replace q104 := eq_true q104
            go_wp2
            go_ret
            exact ⟨by first | rfl | (simp [errW_none, errW_some] <;> rfl) | (simp [*, errW_none, errW_some] <;> rfl), kB1 HB GE102⟩
           ·rw [if_neg c84] at H
            have c84b0 : decide ((rd l0_4 x110_2) ≤ x6_2) = false := decide_eq_false c84
            clear c84
            by_cases c85 : (rd l0_4 x110_2) ≥ 1024
            ·rw [if_pos c85] at H
             have c85b0 : decide (1024 ≤ (rd l0_4 x110_2)) = true := decide_eq_true c85
             clear c85
             obtain rfl := Option.some.inj H
             have p104 : 0 ≤ (x110_2 : Int) := of_decide_eq_true ka
             have q104 : x110_2 < (l0_4.length : Int) := of_decide_eq_true ka
             obtain ⟨ad104, e104, hx104_0⟩ := Kd.at_int HR0_4.out x110_2 p104 q104
             cases e104
             replace hx104_0 := (HB.out.cell (World.block_lt_of_cell? w _ hx104_0)).trans hx104_0
             replace p104 := eq_true p104
             replace q104 := eq_true q104
             go_wp2
             go_ret
             exact ⟨by first | rfl | (simp [errW_none, errW_some] <;> rfl) | (simp [*, errW_none, errW_some] <;> rfl), kB1 HB GE102⟩
            ·rw [if_neg c85] at H
             have c85b0 : decide (1024 ≤ (rd l0_4 x110_2)) = false := decide_eq_false c85
             clear c85
             have H' := Aside0.mk H
             clear H
             have p104 : 0 ≤ (x110_2 : Int) := of_decide_eq_true ka
             have q104 : x110_2 < (l0_4.length : Int) := of_decide_eq_true ka
             obtain ⟨ad104, e104, hx104_0⟩ := Kd.at_int HR0_4.out x110_2 p104 q104
             cases e104
             replace hx104_0 := (HB.out.cell (World.block_lt_of_cell? w _ hx104_0)).trans hx104_0
             replace p104 := eq_true p104
             replace q104 := eq_true q104
             go_wp2
             go_roundg k2
             case measure => have := HJ20.out; have := HK2.out; omega
             case rel => exact ⟨(rd l0_4 x110_2), (wrap64 (x110_2 + 1)), kr, kr, H', ⟨by have := HJ20.out; have := HK2.out; omega⟩, ⟨kb BK102⟩, ⟨kB1 HB GE102⟩⟩
          ·rw [if_neg c83] at H
           exact absurd H (by simp)
         ·rw [if_neg c82] at H
          exact absurd H (by simp)
        ·rw [if_neg c81] at H
         have c81b0 : decide (x110_2 < (l0_4.length : Int)) = false := decide_eq_false c81
         clear c81
         by_cases c86 : ((f64bits a0_3) == 0) = true
         ·rw [if_pos c86] at H
          have c86b0 : ((f64bits a0_3) == 0) = true := c86
          (try (have c86b1 : decide ((f64bits a0_3) = 0) = true := by simpa using c86))
          (try (have c86b2 : ((f64bits a0_3) == 0) = true := by simpa using c86))
          clear c86
          obtain rfl := Option.some.inj H
          go_wp2
          go_ret
          exact ⟨by first | rfl | (simp [errW_none, errW_some] <;> rfl) | (simp [*, errW_none, errW_some] <;> rfl), kB1 HB GE102⟩
         ·rw [if_neg c86] at H
          have c86b0 : ((f64bits a0_3) == 0) = false := by simpa using c86
          (try (have c86b1 : decide ((f64bits a0_3) = 0) = false := by simpa using c86))
          (try (have c86b2 : ((f64bits a0_3) == 0) = false := by simpa using c86))
          (try (have c86b3 : ¬ ((f64bits a0_3) = 0) := by simpa using c86))
          clear c86
          obtain rfl := Option.some.inj H
          go_wp2
          go_ret
          exact ⟨by first | rfl | (simp [errW_none, errW_some] <;> rfl) | (simp [*, errW_none, errW_some] <;> rfl), kB1 HB GE102⟩
end Go.Proofs.YtpeiafamkajedaaDoor.FAll
