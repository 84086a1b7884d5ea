-- written by fprint.sh, a program of ours over the kit's print: not by hand
import Derived.Test.YtfmjgjfbnilpoaaZq
import Derived.Test.YtfmjgjfbnilpoaaEi
import Derived.Test.YtfmjgjfbnilpoaaFAllx0
namespace Go.Proofs.Ytfmjgjfbnilpoaa.FAll
open Go.RowKit YtfmjgjfbnilpoaaW.PrintWords YtfmjgjfbnilpoaaW.PrintLast YtfmjgjfbnilpoaaW.PrintMore
attribute [local go_sem] feq_walk fne_walk flt_walk fle_walk fgt_walk fge_walk fint_walk fstore_walk run_f64bits run_f64from max2_int min2_int max_two min_two max_three min_three max_four min_four   -- for this text's walks alone
set_option linter.unusedVariables false
set_option linter.unusedSimpArgs false
/-! ### thicketref13_below: function 54 -/
def thicketref13_below.l0 : Nat → Int → List Int → Int → List (S71) → Option (Int)
 | 0, _, _, _, _ => none
 | k + 1, x5, x6, x271000, x271001 => if (x6.length : Int) > 0 then (if 0 ≤ (wrap64 ((x6.length : Int) - 1)) then (if (wrap64 ((x6.length : Int) - 1)) < (x6.length : Int) then (if 0 ≤ (rd x6 (wrap64 ((x6.length : Int) - 1))) then (if (rd x6 (wrap64 ((x6.length : Int) - 1))) < (x271001.length : Int) then (if (wrap64 ((x6.length : Int) - 1)) ≤ (x6.length : Int) then ((some (x6.take ((wrap64 ((x6.length : Int) - 1)) : Int).toNat : List Int)).bind fun y277 => (if ((rd_T71 x271001 (rd x6 (wrap64 ((x6.length : Int) - 1)))).f0) = 1 then (thicketref13_below.l0 k (wrap64 (x5 + 1)) y277 x271000 x271001) else ((some (([(rd_T71 x271001 (rd x6 (wrap64 ((x6.length : Int) - 1)))).f6, (rd_T71 x271001 (rd x6 (wrap64 ((x6.length : Int) - 1)))).f7] : List Int) : List Int)).bind fun y280 => (if y277.length + y280.length < 17592186044416 then (thicketref13_below.l0 k x5 (y277 ++ y280) x271000 x271001) else (none))))) else (none)) else (none)) else (none)) else (none)) else (none)) else (some x5)
def thicketref13_below.f (k : Nat) (a0_0 : Int) (l0_1 : List (S71)) (a1 : Int) : Option (Int) := thicketref13_below.l0 k 0 (([a1] : List Int)) a0_0 l0_1
theorem thicketref13_below.mono_l : ∀ k, (∀ y0 y1 y2 y3, LeO (thicketref13_below.l0 k y0 y1 y2 y3) (thicketref13_below.l0 (k + 1) y0 y1 y2 y3))
 | 0 => fun _ _ _ _ r h => by simp [thicketref13_below.l0] at h
 | k + 1 => by
  have ih0 := thicketref13_below.mono_l k
  ·intro y0 y1 y2 y3
   unfold thicketref13_below.l0
   repeat' first
   | (with_reducible exact ih0 _ _ _ _)
   | (with_reducible exact LeO.refl _)
   | (with_reducible exact LeO.none _)
   | (with_reducible refine LeO.ite ?_ ?_)
   | (with_reducible refine LeO.bind ?_ (fun _ => ?_))
theorem thicketref13_below.mono : ∀ a0 a1 a2 k, LeO (thicketref13_below.f k a0 a1 a2) (thicketref13_below.f (k + 1) a0 a1 a2) := by
 intro a0 a1 a2 k
 have ih0 := thicketref13_below.mono_l k
 unfold thicketref13_below.f
 repeat' first
   | (with_reducible exact ih0 _ _ _ _)
   | (with_reducible exact LeO.refl _)
   | (with_reducible exact LeO.none _)
   | (with_reducible refine LeO.ite ?_ ?_)
   | (with_reducible refine LeO.bind ?_ (fun _ => ?_))
def thicketref13_below.T4 : Bool × List (List Nat × List Nat) := (true, [([], []), ([0], [0]), ([], []), ([], []), ([3], [3]), ([4], [4]), ([2, 5], [2, 5]), ([6], [6]), ([1, 7], [1, 7]), ([8], [8]), ([], []), ([10, 9, 0, 1, 2, 3, 4, 5, 6, 7, 8, 9, 10], [9, 10])])
def thicketref13_below.B4 : List Nat := [0, 1, 0, 0, 8, 24, 60, 124, 255, 511, 0, 2047]
theorem thicketref13_below.tab4 : rtab .any (opsOf Try.f54 4) = thicketref13_below.T4 := by kernel_rfl
theorem thicketref13_below.bits4 : waitsOk thicketref13_below.T4.2 thicketref13_below.B4 = true := by kernel_rfl
set_option maxHeartbeats 8000000 in
set_option maxRecDepth 100000 in
theorem thicketref13_below.calls (k : Nat) (a0_0 : Int) (A0_1 : Option Addr) (c0_1 : Nat) (l0_1 : List (S71)) (a1 : Int) (r : Int) (w : World) (hr0_1 : Kd.C k71 w A0_1 l0_1.length l0_1) (hc0_1 : l0_1.length ≤ c0_1) (h : thicketref13_below.f k a0_0 l0_1 a1 = some r) :
  Calls Try.prog 54 #[.agg #[.int .i64 a0_0, .slice A0_1 l0_1.length c0_1], .int .i64 a1] w fun e w' => e = .returned (.int .i64 r) ∧ Below w.heap.size w w' := by
 have hu53 := Try.underlying53
 have hu71 := Try.underlying71
 have HR0_1 := aS_ hr0_1
 have HC0_1 := aS_ hc0_1
 clear hr0_1 hc0_1
 have HB := aS_ (Below.refl w.heap.size w)
 have H : (thicketref13_below.l0 k 0 (([a1] : List Int)) a0_0 l0_1) = some r := h
 clear h
 obtain ⟨y271, hy271⟩ : ∃ y_ : List Int, y_ = (([a1] : List Int)) := ⟨_, rfl⟩
 (try replace H := bS_ H); rw [← hy271] at H; try dsimp only at H
 have Ny271 := aS_ hy271
 clear hy271
 have H' := aS_ H
 clear H
 go_enter Try.func54, Try.ntmps54
 go_wp2_with (first | ((with_reducible refine gate_dst (N := 2) rfl ?_); refine box_event ?hg (N := 2) ?hd (cs := #[.int .i64 a0_0, .slice A0_1 l0_1.length c0_1]) (t := 53) ?hr ?_; (case hd => rfl); (case hg => rfl); (case hr => first | (go_simp; done) | (go_simp; rfl)); intro gb270 hg w3 hbox hb; have n0_ := aS_ (below_step (kB0 HB) hb); have n1_ := aS_ (hbox); have n2_ := aS_ ((kg hg (kB0 HB) : w.heap.size ≤ gb270)); have n3_ := aS_ ((kg hg (kB0 HB) : w.heap.size ≤ gb270)); clear HB; have HB := n0_; have BK270 := n1_; have GW270 := n2_; have GE270 := n3_; clear n0_ n1_ n2_ n3_; clear hb hbox hg) | ((with_reducible refine gate_dst (N := 9) rfl ?_); refine Kd.R_lit (Kd.int .i64) _ 3 ?hg (N := 9) ?hd (xs := ([a1] : List Int)) (inner := [.int .i64 a1]) (ok := fun _ => True) (okp := fun _ => True) ?hr ?hp (fun _ hk => hk) trivial (Below.refl _ _) (Nat.le_refl _) (by simp) ?_; (case hd => rfl); (case hg => rfl); (case hr => first | (go_simp; done) | (go_simp; rfl)); (case hp => exact (Reps.one (show Kd.M (Kd.int .i64) _ _ _ a1 [.int .i64 a1] from rfl) (Reps.none _ _))); intro v272 w4 ho5 hb hg_ hnew_; clear hg_ hnew_; (first | rw [← Ny271.out] at ho5 | (simp only [Int.reduceToNat] at ho5; rw [← Ny271.out] at ho5)); have n0_ := aS_ (Kd.R_lower ho5 (below_size (kB1 HB GE270))); have n1_ := aS_ (blk_below (g := gb270) (o := .cells #[.int .i64 a0_0, .slice A0_1 l0_1.length c0_1] 53 (0, 0)) (kb BK270) hb); have n2_ := aS_ (below_step (kB1 HB GE270) hb); clear BK270; clear HB; have HO273 := n0_; have BK270 := n1_; have HB := n2_; clear n0_ n1_ n2_; clear hb ho5))
 go_loopg [5, 6] k (fun kq v5 v6 w' => ∃ (x5_1 : Int) (x6_1 : List Int), v5 = .int .i64 x5_1 ∧ Aside0 (thicketref13_below.l0 kq x5_1 x6_1 a0_0 l0_1 = some r) ∧ Aside0 (kq ≤ k) ∧ Aside0 (Kd.R (Kd.int .i64) 3 w' w.heap.size (fun _ => True) v6 x6_1) ∧ Aside0 (w'.heap[gb270]? = some (.cells #[.int .i64 a0_0, (.slice A0_1 l0_1.length c0_1)] 53 (0, 0))) ∧ Aside0 (Below w.heap.size w w'))
 case atStart => exact ⟨(0), (y271), kr, H', ⟨Nat.le_refl _⟩, ⟨kR HO273⟩, ⟨kb BK270⟩, ⟨kB1 HB GE270⟩⟩
 case round =>
  clear H'
  try clear p2; try clear c5
  obtain ⟨x5_1, x6_1, rfl, HA, HK1, HO_6, BK270, HB⟩ := hrel
  cases gk with
  | zero => exact absurd HA.out (by simp [thicketref13_below.l0])
  | succ k1 =>
   have H := HA.out
   clear HA
   simp only [thicketref13_below.l0] at H
   by_cases c6 : (x6_1.length : Int) > 0
   ·rw [if_pos c6] at H
    have c6b0 := decide_eq_true c6
    have c6b1 : decide (0 < x6_1.length) = true := decide_eq_true (by omega)
    clear c6
    obtain ⟨ji7, hji7⟩ : ∃ j_ : Int, (wrap64 ((x6_1.length : Int) - 1)) = j_ := ⟨_, rfl⟩
    replace H : (if 0 ≤ (ji7) then (if (ji7) < (x6_1.length : Int) then (if 0 ≤ (rd x6_1 (ji7)) then (if (rd x6_1 (ji7)) < (l0_1.length : Int) then (if (ji7) ≤ (x6_1.length : Int) then ((some (x6_1.take ((ji7) : Int).toNat : List Int)).bind fun y277 => (if ((rd_T71 l0_1 (rd x6_1 (ji7))).f0) = 1 then (thicketref13_below.l0 k1 (wrap64 (x5_1 + 1)) y277 a0_0 l0_1) else ((some (([(rd_T71 l0_1 (rd x6_1 (ji7))).f6, (rd_T71 l0_1 (rd x6_1 (ji7))).f7] : List Int) : List Int)).bind fun y280 => (if y277.length + y280.length < 17592186044416 then (thicketref13_below.l0 k1 x5_1 (y277 ++ y280) a0_0 l0_1) else (none))))) else (none)) else (none)) else (none)) else (none)) else (none)) = some r := by first | (rw [hji7] at H; exact H) | (simp only [hji7] at H ⊢; exact H)
    have hji7w : (IntKind.i64.wrap ((x6_1.length : Int) - 1)) = ji7 := (i64_w _).trans hji7
    by_cases c8 : 0 ≤ (ji7)
    ·rw [if_pos c8] at H
     have c8b0 := decide_eq_true c8
     clear c8
     by_cases c9 : (ji7) < (x6_1.length : Int)
     ·rw [if_pos c9] at H
      have c9b0 := decide_eq_true c9
      clear c9
      by_cases c10 : 0 ≤ (rd x6_1 (ji7))
      ·rw [if_pos c10] at H
       have c10b0 := decide_eq_true c10
       clear c10
       by_cases c11 : (rd x6_1 (ji7)) < (l0_1.length : Int)
       ·rw [if_pos c11] at H
        have c11b0 := decide_eq_true c11
        clear c11
        by_cases c12 : (ji7) ≤ (x6_1.length : Int)
        ·rw [if_pos c12] at H
         have c12b0 := eq_true c12
         have c12b1 := decide_eq_true c12
         clear c12
         obtain ⟨y277, hy277⟩ : ∃ y_ : List Int, y_ = (x6_1.take ((ji7) : Int).toNat) := ⟨_, rfl⟩
         (try replace H := bS_ H); rw [← hy277] at H; try dsimp only at H
         have Ny277 := aS_ hy277
         clear hy277
         by_cases c13 : ((rd_T71 l0_1 (rd x6_1 (ji7))).f0) = 1
         ·rw [if_pos c13] at H
          have c13b0 := beq_iff_eq.mpr c13
          have c13b1 := bne_eq_false_iff_eq.mpr c13
          clear c13
          have H' := aS_ H
          clear H
          obtain ⟨Ao14, co14, eo14⟩ := Kd.R_slice HO_6.out
          subst eo14
          try go_wp2
          have n0_ := aS_ (Kd.R_drew HO_6.out)
          have n1_ := aS_ (blk_drew BK270.out)
          have n2_ := aS_ (below_drew1 HB.out)
          clear HO_6
          clear BK270
          clear HB
          have HO_6 := n0_
          have BK270 := n1_
          have HB := n2_
          clear n0_ n1_ n2_
          have p274 : 0 ≤ ((ji7) : Int) := of_decide_eq_true ka
          have q274 : (ji7) < (x6_1.length : Int) := of_decide_eq_true ka
          obtain ⟨ad274, e274, hx274_0⟩ := Kd.at_int (Kd.R_reads' HO_6.out).2.2 (ji7) p274 q274
          cases e274
          replace p274 := eq_true p274
          replace q274 := eq_true q274
          have p275 : 0 ≤ ((rd x6_1 (ji7)) : Int) := of_decide_eq_true ka
          have q275 : (rd x6_1 (ji7)) < (l0_1.length : Int) := of_decide_eq_true ka
          obtain ⟨ad275, A275_4, c275_4, e275, hx275_0, hx275_1, hx275_2, hx275_3, hx275_4, hx275_5, hx275_6, hx275_7, hl275_4, hi275_4⟩ := at_T71 HR0_1.out (rd x6_1 (ji7)) p275 q275
          have hw275_7 := hx275_7
          have hw275_6 := hx275_6
          have hw275_5 := hx275_5
          have hw275_4 := hx275_4
          have hw275_3 := hx275_3
          have hw275_2 := hx275_2
          have hw275_1 := hx275_1
          have hw275_0 := hx275_0
          cases e275
          replace hx275_0 := cB_ HB.out hx275_0
          replace hx275_1 := cB_ HB.out hx275_1
          replace hx275_2 := cB_ HB.out hx275_2
          replace hx275_3 := cB_ HB.out hx275_3
          replace hx275_4 := cB_ HB.out hx275_4
          replace hx275_5 := cB_ HB.out hx275_5
          replace hx275_6 := cB_ HB.out hx275_6
          replace hx275_7 := cB_ HB.out hx275_7
          have HR275_4 := aS_ hi275_4
          have HC275_4 := aS_ hl275_4
          clear hi275_4 hl275_4
          replace p275 := eq_true p275
          replace q275 := eq_true q275
          refine start_ (n := 12) (S := fun w' => w'.cell? ⟨gb270, 0, none⟩ = some (.int .i64 a0_0) ∧ w'.cell? ⟨gb270, 1, none⟩ = some (.slice (some ad275) l0_1.length c0_1) ∧ w'.cell? (ad274.add ((ji7)).toNat) = some (.int .i64 (rd x6_1 (ji7))) ∧ w'.cell? (ad275.add (((rd x6_1 (ji7))).toNat * 8)) = some (.int .u8 ((rd_T71 l0_1 (rd x6_1 (ji7))).f0)) ∧ w'.cell? ⟨(ad275.add (((rd x6_1 (ji7))).toNat * 8)).block, (ad275.add (((rd x6_1 (ji7))).toNat * 8)).off + 1, none⟩ = some (.int .i64 ((rd_T71 l0_1 (rd x6_1 (ji7))).f1)) ∧ w'.cell? ⟨(ad275.add (((rd x6_1 (ji7))).toNat * 8)).block, (ad275.add (((rd x6_1 (ji7))).toNat * 8)).off + 2, none⟩ = some (.int .i64 ((rd_T71 l0_1 (rd x6_1 (ji7))).f2)) ∧ w'.cell? ⟨(ad275.add (((rd x6_1 (ji7))).toNat * 8)).block, (ad275.add (((rd x6_1 (ji7))).toNat * 8)).off + 3, none⟩ = some (.float .f64 ((rd_T71 l0_1 (rd x6_1 (ji7))).f3)) ∧ w'.cell? ⟨(ad275.add (((rd x6_1 (ji7))).toNat * 8)).block, (ad275.add (((rd x6_1 (ji7))).toNat * 8)).off + 4, none⟩ = some (.slice A275_4 ((rd_T71 l0_1 (rd x6_1 (ji7))).f4).length c275_4) ∧ w'.cell? ⟨(ad275.add (((rd x6_1 (ji7))).toNat * 8)).block, (ad275.add (((rd x6_1 (ji7))).toNat * 8)).off + 5, none⟩ = some (.int .u8 ((rd_T71 l0_1 (rd x6_1 (ji7))).f5)) ∧ w'.cell? ⟨(ad275.add (((rd x6_1 (ji7))).toNat * 8)).block, (ad275.add (((rd x6_1 (ji7))).toNat * 8)).off + 6, none⟩ = some (.int .i64 ((rd_T71 l0_1 (rd x6_1 (ji7))).f6)) ∧ w'.cell? ⟨(ad275.add (((rd x6_1 (ji7))).toNat * 8)).block, (ad275.add (((rd x6_1 (ji7))).toNat * 8)).off + 7, none⟩ = some (.int .i64 ((rd_T71 l0_1 (rd x6_1 (ji7))).f7))) (ds := []) #[false, false, false, false, false, false, false, false, false, false, false, false] (by kernel_rfl) rfl rfl ⟨(blk_cell BK270.out 0).trans rfl, (blk_cell BK270.out 1).trans rfl, hx274_0, (cB_ HB.out hw275_0), (cB_ HB.out hw275_1), (cB_ HB.out hw275_2), (cB_ HB.out hw275_3), (cB_ HB.out hw275_4), (cB_ HB.out hw275_5), (cB_ HB.out hw275_6), (cB_ HB.out hw275_7)⟩ (fun hHeld => ?_); refine with_tabW thicketref13_below.tab4 thicketref13_below.bits4 (fun HT_ HW_ => ?_)
          generalize wr.drew = w15 at HO_6 BK270 HB HR275_4 hx274_0 hx275_0 hx275_1 hx275_2 hx275_3 hx275_4 hx275_5 hx275_6 hx275_7 hHeld ⊢
          refine pq_ (v := ?_) (b := ?_) (m := ?_) 0 (some 13) ?_
          refine pq_ (v := ?_) (b := ?_) (m := ?_) 2 (some 15) ?_
          refine pq_ (v := ?_) (b := ?_) (m := ?_) 3 (some 16) ?_
          refine pq_ (v := ?_) (b := ?_) (m := ?_) 4 (some 17) ?_
          refine pq_ (v := ?_) (b := ?_) (m := ?_) 5 (some 18) ?_
          refine pq_ (v := ?_) (b := ?_) (m := ?_) 6 (some 19) ?_
          refine tq_ (v := ?_) (b := ?_) (m := ?_) 1 (some 14) hHeld ?_
          refine tq_ (v := ?_) (b := ?_) (m := ?_) 7 (some 20) hHeld ?_
          refine pq_ (v := ?_) (b := ?_) (m := ?_) 8 (some 21) ?_
          refine tq_ (v := ?_) (b := ?_) (m := ?_) 9 (some 22) hHeld ?_
          refine oq_ (m := ?_) 10 (some 7) fun K hK => ?_
          refine box_step ?hg (N := 7) ?hd (cs := #[.int .u8 0, .int .i64 0, .int .i64 0, .float .f64 0, .slice none 0 0, .int .u8 0, .int .i64 0, .int .i64 0]) (t := 71) ?hr ?_; (case hd => rfl); (case hg => rfl); (case hr => first | (go_simp; done) | (go_simp; rfl))
          intro gb276 hg w16 hbox hb
          have HS2_ := cB_ hb (hHeld.2.2.1)
          have n0_ := aS_ (Kd.R_below (kR HO_6) hb)
          have n1_ := aS_ (blk_below (g := gb270) (o := .cells #[.int .i64 a0_0, .slice (some ad275) l0_1.length c0_1] 53 (0, 0)) (kb BK270) hb)
          have n2_ := aS_ (below_step (kB1 HB GE270) hb)
          have n3_ := aS_ (hbox)
          have n4_ := aS_ ((kg hg (kB1 HB GE270) : w.heap.size ≤ gb276))
          have n5_ := aS_ ((kg hg (kB1 HB GE270) : w.heap.size ≤ gb276))
          have n6_ := aS_ ((by rw [hg]; exact Nat.ne_of_lt (blk_lt (g := gb270) (o := .cells #[.int .i64 a0_0, .slice (some ad275) l0_1.length c0_1] 53 (0, 0)) (kb BK270)) : gb270 ≠ gb276))
          have n7_ := aS_ ((by rw [hg]; exact Nat.ne_of_gt (blk_lt (g := gb270) (o := .cells #[.int .i64 a0_0, .slice (some ad275) l0_1.length c0_1] 53 (0, 0)) (kb BK270)) : gb276 ≠ gb270))
          clear HO_6
          clear BK270
          clear HB
          have HO_6 := n0_
          have BK270 := n1_
          have HB := n2_
          have BK276 := n3_
          have GW276 := n4_
          have GE276 := n5_
          have NB270_276 := n6_
          have NB276_270 := n7_
          clear n0_ n1_ n2_ n3_ n4_ n5_ n6_ n7_
          clear hb hbox hg
          refine hK.out _ _ ⟨(blk_cell BK270.out 0).trans rfl, (blk_cell BK270.out 1).trans rfl, HS2_, (cB_ HB.out hw275_0), (cB_ HB.out hw275_1), (cB_ HB.out hw275_2), (cB_ HB.out hw275_3), (cB_ HB.out hw275_4), (cB_ HB.out hw275_5), (cB_ HB.out hw275_6), (cB_ HB.out hw275_7)⟩ (fun hHeld => ?_)
          clear hK K
          refine nq_ (b := ?_) (some 7) ?_
          refine oq_ (m := ?_) 11 none fun K hK => ?_
          have hs17 : w16.cell? ⟨gb276, 0, none⟩ = some (.int .u8 0) := (blk_cell BK276.out 0).trans rfl
          have hfs17 := blk_frozen BK276.out 0
          have hns17_0 := NB270_276.out
          have hms17_0 := NB276_270.out
          have hs18 : w16.cell? ⟨gb276, 1, none⟩ = some (.int .i64 0) := (blk_cell BK276.out 1).trans rfl
          have hfs18 := blk_frozen BK276.out 1
          have hns18_0 := NB270_276.out
          have hms18_0 := NB276_270.out
          have hs19 : w16.cell? ⟨gb276, 2, none⟩ = some (.int .i64 0) := (blk_cell BK276.out 2).trans rfl
          have hfs19 := blk_frozen BK276.out 2
          have hns19_0 := NB270_276.out
          have hms19_0 := NB276_270.out
          have hs20 : w16.cell? ⟨gb276, 3, none⟩ = some (.float .f64 0) := (blk_cell BK276.out 3).trans rfl
          have hfs20 := blk_frozen BK276.out 3
          have hns20_0 := NB270_276.out
          have hms20_0 := NB276_270.out
          have hs21 : w16.cell? ⟨gb276, 4, none⟩ = some (.slice none 0 0) := (blk_cell BK276.out 4).trans rfl
          have hfs21 := blk_frozen BK276.out 4
          have hns21_0 := NB270_276.out
          have hms21_0 := NB276_270.out
          have hs22 : w16.cell? ⟨gb276, 5, none⟩ = some (.int .u8 0) := (blk_cell BK276.out 5).trans rfl
          have hfs22 := blk_frozen BK276.out 5
          have hns22_0 := NB270_276.out
          have hms22_0 := NB276_270.out
          have hs23 : w16.cell? ⟨gb276, 6, none⟩ = some (.int .i64 0) := (blk_cell BK276.out 6).trans rfl
          have hfs23 := blk_frozen BK276.out 6
          have hns23_0 := NB270_276.out
          have hms23_0 := NB276_270.out
          have hs24 : w16.cell? ⟨gb276, 7, none⟩ = some (.int .i64 0) := (blk_cell BK276.out 7).trans rfl
          have hfs24 := blk_frozen BK276.out 7
          have hns24_0 := NB270_276.out
          have hms24_0 := NB276_270.out
          refine skip_ (w1 := ?_) (by rfl) rfl ?_ ?_
          rotate_left
          ·go_simp
           rfl
          refine hK.out _ _ ⟨((cell_far8 (g := gb276) NB270_276.out).trans (hHeld.1)), ((cell_far8 (g := gb276) NB270_276.out).trans (hHeld.2.1)), ((cell_far8 (g := gb276) (by first | exact Kd.own_blk (Kd.R_ne HO_6.out BK276.out (by decide)) | (rw [add_block]; exact Kd.own_blk (Kd.R_ne HO_6.out BK276.out (by decide))) | (show (Addr.add _ _).block ≠ _; rw [add_block]; exact Kd.own_blk (Kd.R_ne HO_6.out BK276.out (by decide))) | (dsimp only; exact Kd.own_blk (Kd.R_ne HO_6.out BK276.out (by decide))))).trans (hHeld.2.2.1)), ((cell_far8 (g := gb276) (by first | exact Nat.ne_of_lt (Nat.lt_of_lt_of_le (by have := World.block_lt_of_cell? _ _ hw275_0; first | rwa [add_block] at this | exact this) GW276.out) | (rw [add_block]; exact Nat.ne_of_lt (Nat.lt_of_lt_of_le (by have := World.block_lt_of_cell? _ _ hw275_0; first | rwa [add_block] at this | exact this) GW276.out)) | (show (Addr.add _ _).block ≠ _; rw [add_block]; exact Nat.ne_of_lt (Nat.lt_of_lt_of_le (by have := World.block_lt_of_cell? _ _ hw275_0; first | rwa [add_block] at this | exact this) GW276.out)) | (dsimp only; exact Nat.ne_of_lt (Nat.lt_of_lt_of_le (by have := World.block_lt_of_cell? _ _ hw275_0; first | rwa [add_block] at this | exact this) GW276.out)))).trans (hHeld.2.2.2.1)), ((cell_far8 (g := gb276) (by first | exact Nat.ne_of_lt (Nat.lt_of_lt_of_le (by have := World.block_lt_of_cell? _ _ hw275_1; first | rwa [add_block] at this | exact this) GW276.out) | (rw [add_block]; exact Nat.ne_of_lt (Nat.lt_of_lt_of_le (by have := World.block_lt_of_cell? _ _ hw275_1; first | rwa [add_block] at this | exact this) GW276.out)) | (show (Addr.add _ _).block ≠ _; rw [add_block]; exact Nat.ne_of_lt (Nat.lt_of_lt_of_le (by have := World.block_lt_of_cell? _ _ hw275_1; first | rwa [add_block] at this | exact this) GW276.out)) | (dsimp only; exact Nat.ne_of_lt (Nat.lt_of_lt_of_le (by have := World.block_lt_of_cell? _ _ hw275_1; first | rwa [add_block] at this | exact this) GW276.out)))).trans (hHeld.2.2.2.2.1)), ((cell_far8 (g := gb276) (by first | exact Nat.ne_of_lt (Nat.lt_of_lt_of_le (by have := World.block_lt_of_cell? _ _ hw275_2; first | rwa [add_block] at this | exact this) GW276.out) | (rw [add_block]; exact Nat.ne_of_lt (Nat.lt_of_lt_of_le (by have := World.block_lt_of_cell? _ _ hw275_2; first | rwa [add_block] at this | exact this) GW276.out)) | (show (Addr.add _ _).block ≠ _; rw [add_block]; exact Nat.ne_of_lt (Nat.lt_of_lt_of_le (by have := World.block_lt_of_cell? _ _ hw275_2; first | rwa [add_block] at this | exact this) GW276.out)) | (dsimp only; exact Nat.ne_of_lt (Nat.lt_of_lt_of_le (by have := World.block_lt_of_cell? _ _ hw275_2; first | rwa [add_block] at this | exact this) GW276.out)))).trans (hHeld.2.2.2.2.2.1)), ((cell_far8 (g := gb276) (by first | exact Nat.ne_of_lt (Nat.lt_of_lt_of_le (by have := World.block_lt_of_cell? _ _ hw275_3; first | rwa [add_block] at this | exact this) GW276.out) | (rw [add_block]; exact Nat.ne_of_lt (Nat.lt_of_lt_of_le (by have := World.block_lt_of_cell? _ _ hw275_3; first | rwa [add_block] at this | exact this) GW276.out)) | (show (Addr.add _ _).block ≠ _; rw [add_block]; exact Nat.ne_of_lt (Nat.lt_of_lt_of_le (by have := World.block_lt_of_cell? _ _ hw275_3; first | rwa [add_block] at this | exact this) GW276.out)) | (dsimp only; exact Nat.ne_of_lt (Nat.lt_of_lt_of_le (by have := World.block_lt_of_cell? _ _ hw275_3; first | rwa [add_block] at this | exact this) GW276.out)))).trans (hHeld.2.2.2.2.2.2.1)), ((cell_far8 (g := gb276) (by first | exact Nat.ne_of_lt (Nat.lt_of_lt_of_le (by have := World.block_lt_of_cell? _ _ hw275_4; first | rwa [add_block] at this | exact this) GW276.out) | (rw [add_block]; exact Nat.ne_of_lt (Nat.lt_of_lt_of_le (by have := World.block_lt_of_cell? _ _ hw275_4; first | rwa [add_block] at this | exact this) GW276.out)) | (show (Addr.add _ _).block ≠ _; rw [add_block]; exact Nat.ne_of_lt (Nat.lt_of_lt_of_le (by have := World.block_lt_of_cell? _ _ hw275_4; first | rwa [add_block] at this | exact this) GW276.out)) | (dsimp only; exact Nat.ne_of_lt (Nat.lt_of_lt_of_le (by have := World.block_lt_of_cell? _ _ hw275_4; first | rwa [add_block] at this | exact this) GW276.out)))).trans (hHeld.2.2.2.2.2.2.2.1)), ((cell_far8 (g := gb276) (by first | exact Nat.ne_of_lt (Nat.lt_of_lt_of_le (by have := World.block_lt_of_cell? _ _ hw275_5; first | rwa [add_block] at this | exact this) GW276.out) | (rw [add_block]; exact Nat.ne_of_lt (Nat.lt_of_lt_of_le (by have := World.block_lt_of_cell? _ _ hw275_5; first | rwa [add_block] at this | exact this) GW276.out)) | (show (Addr.add _ _).block ≠ _; rw [add_block]; exact Nat.ne_of_lt (Nat.lt_of_lt_of_le (by have := World.block_lt_of_cell? _ _ hw275_5; first | rwa [add_block] at this | exact this) GW276.out)) | (dsimp only; exact Nat.ne_of_lt (Nat.lt_of_lt_of_le (by have := World.block_lt_of_cell? _ _ hw275_5; first | rwa [add_block] at this | exact this) GW276.out)))).trans (hHeld.2.2.2.2.2.2.2.2.1)), ((cell_far8 (g := gb276) (by first | exact Nat.ne_of_lt (Nat.lt_of_lt_of_le (by have := World.block_lt_of_cell? _ _ hw275_6; first | rwa [add_block] at this | exact this) GW276.out) | (rw [add_block]; exact Nat.ne_of_lt (Nat.lt_of_lt_of_le (by have := World.block_lt_of_cell? _ _ hw275_6; first | rwa [add_block] at this | exact this) GW276.out)) | (show (Addr.add _ _).block ≠ _; rw [add_block]; exact Nat.ne_of_lt (Nat.lt_of_lt_of_le (by have := World.block_lt_of_cell? _ _ hw275_6; first | rwa [add_block] at this | exact this) GW276.out)) | (dsimp only; exact Nat.ne_of_lt (Nat.lt_of_lt_of_le (by have := World.block_lt_of_cell? _ _ hw275_6; first | rwa [add_block] at this | exact this) GW276.out)))).trans (hHeld.2.2.2.2.2.2.2.2.2.1)), ((cell_far8 (g := gb276) (by first | exact Nat.ne_of_lt (Nat.lt_of_lt_of_le (by have := World.block_lt_of_cell? _ _ hw275_7; first | rwa [add_block] at this | exact this) GW276.out) | (rw [add_block]; exact Nat.ne_of_lt (Nat.lt_of_lt_of_le (by have := World.block_lt_of_cell? _ _ hw275_7; first | rwa [add_block] at this | exact this) GW276.out)) | (show (Addr.add _ _).block ≠ _; rw [add_block]; exact Nat.ne_of_lt (Nat.lt_of_lt_of_le (by have := World.block_lt_of_cell? _ _ hw275_7; first | rwa [add_block] at this | exact this) GW276.out)) | (dsimp only; exact Nat.ne_of_lt (Nat.lt_of_lt_of_le (by have := World.block_lt_of_cell? _ _ hw275_7; first | rwa [add_block] at this | exact this) GW276.out)))).trans (hHeld.2.2.2.2.2.2.2.2.2.2))⟩ (fun hHeld => ?_)
          clear hK K
          refine done_ (done_of HT_.out (by kernel_rfl)) ?_
          have n0_ : Aside0 (Kd.R (Kd.int .i64) 3 ((((((((w16.setCell ⟨gb276, 0, none⟩ (.int .u8 ((rd_T71 l0_1 (rd x6_1 (ji7))).f0))).setCell ⟨gb276, 1, none⟩ (.int .i64 ((rd_T71 l0_1 (rd x6_1 (ji7))).f1))).setCell ⟨gb276, 2, none⟩ (.int .i64 ((rd_T71 l0_1 (rd x6_1 (ji7))).f2))).setCell ⟨gb276, 3, none⟩ (.float .f64 ((rd_T71 l0_1 (rd x6_1 (ji7))).f3))).setCell ⟨gb276, 4, none⟩ (.slice A275_4 ((rd_T71 l0_1 (rd x6_1 (ji7))).f4).length c275_4)).setCell ⟨gb276, 5, none⟩ (.int .u8 ((rd_T71 l0_1 (rd x6_1 (ji7))).f5))).setCell ⟨gb276, 6, none⟩ (.int .i64 ((rd_T71 l0_1 (rd x6_1 (ji7))).f6))).setCell ⟨gb276, 7, none⟩ (.int .i64 ((rd_T71 l0_1 (rd x6_1 (ji7))).f7))) w.heap.size (fun _ => True) (.slice (some ad274) x6_1.length co14) x6_1) := ⟨by (with_reducible repeat (first | apply Kd.R_alloc | apply Kd.R_drewN | apply Kd.R_drew)); exact Kd.R_mono (Kd.R_far8 (Kd.R_types HO_6.out BK276.out (by decide)) (fun _ hk => hk.2) _ _ _ _ _ _ _ _) (fun _ hk => trivial)⟩
          have n1_ : Aside0 (((((((((w16.setCell ⟨gb276, 0, none⟩ (.int .u8 ((rd_T71 l0_1 (rd x6_1 (ji7))).f0))).setCell ⟨gb276, 1, none⟩ (.int .i64 ((rd_T71 l0_1 (rd x6_1 (ji7))).f1))).setCell ⟨gb276, 2, none⟩ (.int .i64 ((rd_T71 l0_1 (rd x6_1 (ji7))).f2))).setCell ⟨gb276, 3, none⟩ (.float .f64 ((rd_T71 l0_1 (rd x6_1 (ji7))).f3))).setCell ⟨gb276, 4, none⟩ (.slice A275_4 ((rd_T71 l0_1 (rd x6_1 (ji7))).f4).length c275_4)).setCell ⟨gb276, 5, none⟩ (.int .u8 ((rd_T71 l0_1 (rd x6_1 (ji7))).f5))).setCell ⟨gb276, 6, none⟩ (.int .i64 ((rd_T71 l0_1 (rd x6_1 (ji7))).f6))).setCell ⟨gb276, 7, none⟩ (.int .i64 ((rd_T71 l0_1 (rd x6_1 (ji7))).f7))).heap[gb270]? = some (.cells #[.int .i64 a0_0, .slice (some ad275) l0_1.length c0_1] 53 (0, 0))) := ⟨by (with_reducible repeat (first | refine blk_drewN ?_ _ | refine blk_drew ?_ | refine blk_alloc ?_ _)); refine blk_far8 ?_ NB270_276.out _ _ _ _ _ _ _ _; (with_reducible repeat (first | refine blk_drewN ?_ _ | refine blk_drew ?_ | refine blk_alloc ?_ _)); exact BK270.out⟩
          have n2_ : Aside0 (((((((((w16.setCell ⟨gb276, 0, none⟩ (.int .u8 ((rd_T71 l0_1 (rd x6_1 (ji7))).f0))).setCell ⟨gb276, 1, none⟩ (.int .i64 ((rd_T71 l0_1 (rd x6_1 (ji7))).f1))).setCell ⟨gb276, 2, none⟩ (.int .i64 ((rd_T71 l0_1 (rd x6_1 (ji7))).f2))).setCell ⟨gb276, 3, none⟩ (.float .f64 ((rd_T71 l0_1 (rd x6_1 (ji7))).f3))).setCell ⟨gb276, 4, none⟩ (.slice A275_4 ((rd_T71 l0_1 (rd x6_1 (ji7))).f4).length c275_4)).setCell ⟨gb276, 5, none⟩ (.int .u8 ((rd_T71 l0_1 (rd x6_1 (ji7))).f5))).setCell ⟨gb276, 6, none⟩ (.int .i64 ((rd_T71 l0_1 (rd x6_1 (ji7))).f6))).setCell ⟨gb276, 7, none⟩ (.int .i64 ((rd_T71 l0_1 (rd x6_1 (ji7))).f7))).heap[gb276]? = some (.cells #[.int .u8 ((rd_T71 l0_1 (rd x6_1 (ji7))).f0), .int .i64 ((rd_T71 l0_1 (rd x6_1 (ji7))).f1), .int .i64 ((rd_T71 l0_1 (rd x6_1 (ji7))).f2), .float .f64 ((rd_T71 l0_1 (rd x6_1 (ji7))).f3), .slice A275_4 ((rd_T71 l0_1 (rd x6_1 (ji7))).f4).length c275_4, .int .u8 ((rd_T71 l0_1 (rd x6_1 (ji7))).f5), .int .i64 ((rd_T71 l0_1 (rd x6_1 (ji7))).f6), .int .i64 ((rd_T71 l0_1 (rd x6_1 (ji7))).f7)] 71 (0, 0))) := ⟨by (with_reducible repeat (first | refine blk_drewN ?_ _ | refine blk_drew ?_ | refine blk_alloc ?_ _)); exact blk_put8 (kb BK276) _ _ _ _ _ _ _ _⟩
          have n3_ : Aside0 (Below w.heap.size w ((((((((w16.setCell ⟨gb276, 0, none⟩ (.int .u8 ((rd_T71 l0_1 (rd x6_1 (ji7))).f0))).setCell ⟨gb276, 1, none⟩ (.int .i64 ((rd_T71 l0_1 (rd x6_1 (ji7))).f1))).setCell ⟨gb276, 2, none⟩ (.int .i64 ((rd_T71 l0_1 (rd x6_1 (ji7))).f2))).setCell ⟨gb276, 3, none⟩ (.float .f64 ((rd_T71 l0_1 (rd x6_1 (ji7))).f3))).setCell ⟨gb276, 4, none⟩ (.slice A275_4 ((rd_T71 l0_1 (rd x6_1 (ji7))).f4).length c275_4)).setCell ⟨gb276, 5, none⟩ (.int .u8 ((rd_T71 l0_1 (rd x6_1 (ji7))).f5))).setCell ⟨gb276, 6, none⟩ (.int .i64 ((rd_T71 l0_1 (rd x6_1 (ji7))).f6))).setCell ⟨gb276, 7, none⟩ (.int .i64 ((rd_T71 l0_1 (rd x6_1 (ji7))).f7)))) := ⟨kB2 HB GE270 GE276⟩
          (try clear HO_6)
          (try clear BK270)
          (try clear BK276)
          (try clear HB)
          generalize ((((((((w16.setCell ⟨gb276, 0, none⟩ (.int .u8 ((rd_T71 l0_1 (rd x6_1 (ji7))).f0))).setCell ⟨gb276, 1, none⟩ (.int .i64 ((rd_T71 l0_1 (rd x6_1 (ji7))).f1))).setCell ⟨gb276, 2, none⟩ (.int .i64 ((rd_T71 l0_1 (rd x6_1 (ji7))).f2))).setCell ⟨gb276, 3, none⟩ (.float .f64 ((rd_T71 l0_1 (rd x6_1 (ji7))).f3))).setCell ⟨gb276, 4, none⟩ (.slice A275_4 ((rd_T71 l0_1 (rd x6_1 (ji7))).f4).length c275_4)).setCell ⟨gb276, 5, none⟩ (.int .u8 ((rd_T71 l0_1 (rd x6_1 (ji7))).f5))).setCell ⟨gb276, 6, none⟩ (.int .i64 ((rd_T71 l0_1 (rd x6_1 (ji7))).f6))).setCell ⟨gb276, 7, none⟩ (.int .i64 ((rd_T71 l0_1 (rd x6_1 (ji7))).f7))) = w25 at n0_ n1_ n2_ n3_ ⊢
          have HO_6 := n0_
          have BK270 := n1_
          have BK276 := n2_
          have HB := n3_
          clear n0_ n1_ n2_ n3_
          have q26 : ((ji7) : Int) ≤ ((x6_1.length : Int) : Int) := of_decide_eq_true ka
          obtain ⟨i026, hi026, _, hsz26, _⟩ := info_parts info3
          have hcut26 := cut_to (P := Try.prog) 54 3 .i64 Try.underlying54 hi026 (some ad274) x6_1.length co14 (ji7) (of_decide_eq_true ka) q26 (Kd.R_reads' HO_6.out).2.1
          have hr26 := Kd.R_take (m := ((ji7) : Int).toNat) HO_6.out (by omega)
          have hy26 : y277.length = ((ji7) : Int).toNat := (by rw [Ny277.out, List.length_take]; omega)
          rw [← Ny277.out] at hr26
          rw [← hy26] at hr26 hcut26
          clear hy26 hi026 hsz26 HO_6
          have HO279 := aS_ hr26
          clear hr26
          replace q26 := eq_true q26
          have hnb27 := NB276_270.out
          have hnc27 := NB270_276.out
          have hcz28 := blk8 (w := w25) BK276.out
          try go_wp2
          go_roundg k1
          case measure => have := HK1.out; omega
          case rel => exact ⟨(wrap64 (x5_1 + 1)), (y277), kr, H', ⟨by have := HK1.out; omega⟩, ⟨kR HO279⟩, ⟨kb BK270⟩, ⟨kB2 HB GE270 GE276⟩⟩
         ·rw [if_neg c13] at H
          have c13b0 := beq_eq_false_iff_ne.mpr c13
          have c13b1 := bne_iff_ne.mpr c13
          obtain ⟨y280, hy280⟩ : ∃ y_ : List Int, y_ = (([(rd_T71 l0_1 (rd x6_1 (ji7))).f6, (rd_T71 l0_1 (rd x6_1 (ji7))).f7] : List Int)) := ⟨_, rfl⟩
          (try replace H := bS_ H); rw [← hy280] at H; try dsimp only at H
          have Ny280 := aS_ hy280
          clear hy280
          by_cases c29 : y277.length + y280.length < 17592186044416
          ·rw [if_pos c29] at H
           have LMc29 := aS_ c29
           clear c29
           obtain ⟨y283, hy283⟩ : ∃ y_ : List Int, y_ = (y277 ++ y280) := ⟨_, rfl⟩
           (try replace H := bS_ H); rw [← hy283] at H; try dsimp only at H
           have Ny283 := aS_ hy283
           clear hy283
           have H' := aS_ H
           clear H
           obtain ⟨Ao30, co30, eo30⟩ := Kd.R_slice HO_6.out
           subst eo30
           try go_wp2
           have n0_ := aS_ (Kd.R_drew HO_6.out)
           have n1_ := aS_ (blk_drew BK270.out)
           have n2_ := aS_ (below_drew1 HB.out)
           clear HO_6
           clear BK270
           clear HB
           have HO_6 := n0_
           have BK270 := n1_
           have HB := n2_
           clear n0_ n1_ n2_
           have p274 : 0 ≤ ((ji7) : Int) := of_decide_eq_true ka
           have q274 : (ji7) < (x6_1.length : Int) := of_decide_eq_true ka
           obtain ⟨ad274, e274, hx274_0⟩ := Kd.at_int (Kd.R_reads' HO_6.out).2.2 (ji7) p274 q274
           cases e274
           replace p274 := eq_true p274
           replace q274 := eq_true q274
           have p275 : 0 ≤ ((rd x6_1 (ji7)) : Int) := of_decide_eq_true ka
           have q275 : (rd x6_1 (ji7)) < (l0_1.length : Int) := of_decide_eq_true ka
           obtain ⟨ad275, A275_4, c275_4, e275, hx275_0, hx275_1, hx275_2, hx275_3, hx275_4, hx275_5, hx275_6, hx275_7, hl275_4, hi275_4⟩ := at_T71 HR0_1.out (rd x6_1 (ji7)) p275 q275
           have hw275_7 := hx275_7
           have hw275_6 := hx275_6
           have hw275_5 := hx275_5
           have hw275_4 := hx275_4
           have hw275_3 := hx275_3
           have hw275_2 := hx275_2
           have hw275_1 := hx275_1
           have hw275_0 := hx275_0
           cases e275
           replace hx275_0 := cB_ HB.out hx275_0
           replace hx275_1 := cB_ HB.out hx275_1
           replace hx275_2 := cB_ HB.out hx275_2
           replace hx275_3 := cB_ HB.out hx275_3
           replace hx275_4 := cB_ HB.out hx275_4
           replace hx275_5 := cB_ HB.out hx275_5
           replace hx275_6 := cB_ HB.out hx275_6
           replace hx275_7 := cB_ HB.out hx275_7
           have HR275_4 := aS_ hi275_4
           have HC275_4 := aS_ hl275_4
           clear hi275_4 hl275_4
           replace p275 := eq_true p275
           replace q275 := eq_true q275
           refine start_ (n := 12) (S := fun w' => w'.cell? ⟨gb270, 0, none⟩ = some (.int .i64 a0_0) ∧ w'.cell? ⟨gb270, 1, none⟩ = some (.slice (some ad275) l0_1.length c0_1) ∧ w'.cell? (ad274.add ((ji7)).toNat) = some (.int .i64 (rd x6_1 (ji7))) ∧ w'.cell? (ad275.add (((rd x6_1 (ji7))).toNat * 8)) = some (.int .u8 ((rd_T71 l0_1 (rd x6_1 (ji7))).f0)) ∧ w'.cell? ⟨(ad275.add (((rd x6_1 (ji7))).toNat * 8)).block, (ad275.add (((rd x6_1 (ji7))).toNat * 8)).off + 1, none⟩ = some (.int .i64 ((rd_T71 l0_1 (rd x6_1 (ji7))).f1)) ∧ w'.cell? ⟨(ad275.add (((rd x6_1 (ji7))).toNat * 8)).block, (ad275.add (((rd x6_1 (ji7))).toNat * 8)).off + 2, none⟩ = some (.int .i64 ((rd_T71 l0_1 (rd x6_1 (ji7))).f2)) ∧ w'.cell? ⟨(ad275.add (((rd x6_1 (ji7))).toNat * 8)).block, (ad275.add (((rd x6_1 (ji7))).toNat * 8)).off + 3, none⟩ = some (.float .f64 ((rd_T71 l0_1 (rd x6_1 (ji7))).f3)) ∧ w'.cell? ⟨(ad275.add (((rd x6_1 (ji7))).toNat * 8)).block, (ad275.add (((rd x6_1 (ji7))).toNat * 8)).off + 4, none⟩ = some (.slice A275_4 ((rd_T71 l0_1 (rd x6_1 (ji7))).f4).length c275_4) ∧ w'.cell? ⟨(ad275.add (((rd x6_1 (ji7))).toNat * 8)).block, (ad275.add (((rd x6_1 (ji7))).toNat * 8)).off + 5, none⟩ = some (.int .u8 ((rd_T71 l0_1 (rd x6_1 (ji7))).f5)) ∧ w'.cell? ⟨(ad275.add (((rd x6_1 (ji7))).toNat * 8)).block, (ad275.add (((rd x6_1 (ji7))).toNat * 8)).off + 6, none⟩ = some (.int .i64 ((rd_T71 l0_1 (rd x6_1 (ji7))).f6)) ∧ w'.cell? ⟨(ad275.add (((rd x6_1 (ji7))).toNat * 8)).block, (ad275.add (((rd x6_1 (ji7))).toNat * 8)).off + 7, none⟩ = some (.int .i64 ((rd_T71 l0_1 (rd x6_1 (ji7))).f7))) (ds := []) #[false, false, false, false, false, false, false, false, false, false, false, false] (by kernel_rfl) rfl rfl ⟨(blk_cell BK270.out 0).trans rfl, (blk_cell BK270.out 1).trans rfl, hx274_0, (cB_ HB.out hw275_0), (cB_ HB.out hw275_1), (cB_ HB.out hw275_2), (cB_ HB.out hw275_3), (cB_ HB.out hw275_4), (cB_ HB.out hw275_5), (cB_ HB.out hw275_6), (cB_ HB.out hw275_7)⟩ (fun hHeld => ?_); refine with_tabW thicketref13_below.tab4 thicketref13_below.bits4 (fun HT_ HW_ => ?_)
           generalize wr.drew = w31 at HO_6 BK270 HB HR275_4 hx274_0 hx275_0 hx275_1 hx275_2 hx275_3 hx275_4 hx275_5 hx275_6 hx275_7 hHeld ⊢
           refine pq_ (v := ?_) (b := ?_) (m := ?_) 0 (some 13) ?_
           refine pq_ (v := ?_) (b := ?_) (m := ?_) 2 (some 15) ?_
           refine pq_ (v := ?_) (b := ?_) (m := ?_) 3 (some 16) ?_
           refine pq_ (v := ?_) (b := ?_) (m := ?_) 4 (some 17) ?_
           refine pq_ (v := ?_) (b := ?_) (m := ?_) 5 (some 18) ?_
           refine pq_ (v := ?_) (b := ?_) (m := ?_) 6 (some 19) ?_
           refine tq_ (v := ?_) (b := ?_) (m := ?_) 1 (some 14) hHeld ?_
           refine tq_ (v := ?_) (b := ?_) (m := ?_) 7 (some 20) hHeld ?_
           refine pq_ (v := ?_) (b := ?_) (m := ?_) 8 (some 21) ?_
           refine tq_ (v := ?_) (b := ?_) (m := ?_) 9 (some 22) hHeld ?_
           refine oq_ (m := ?_) 10 (some 7) fun K hK => ?_
           refine box_step ?hg (N := 7) ?hd (cs := #[.int .u8 0, .int .i64 0, .int .i64 0, .float .f64 0, .slice none 0 0, .int .u8 0, .int .i64 0, .int .i64 0]) (t := 71) ?hr ?_; (case hd => rfl); (case hg => rfl); (case hr => first | (go_simp; done) | (go_simp; rfl))
           intro gb276 hg w32 hbox hb
           have HS2_ := cB_ hb (hHeld.2.2.1)
           have n0_ := aS_ (Kd.R_below (kR HO_6) hb)
           have n1_ := aS_ (blk_below (g := gb270) (o := .cells #[.int .i64 a0_0, .slice (some ad275) l0_1.length c0_1] 53 (0, 0)) (kb BK270) hb)
           have n2_ := aS_ (below_step (kB1 HB GE270) hb)
           have n3_ := aS_ (hbox)
           have n4_ := aS_ ((kg hg (kB1 HB GE270) : w.heap.size ≤ gb276))
           have n5_ := aS_ ((kg hg (kB1 HB GE270) : w.heap.size ≤ gb276))
           have n6_ := aS_ ((by rw [hg]; exact Nat.ne_of_lt (blk_lt (g := gb270) (o := .cells #[.int .i64 a0_0, .slice (some ad275) l0_1.length c0_1] 53 (0, 0)) (kb BK270)) : gb270 ≠ gb276))
           have n7_ := aS_ ((by rw [hg]; exact Nat.ne_of_gt (blk_lt (g := gb270) (o := .cells #[.int .i64 a0_0, .slice (some ad275) l0_1.length c0_1] 53 (0, 0)) (kb BK270)) : gb276 ≠ gb270))
           clear HO_6
           clear BK270
           clear HB
           have HO_6 := n0_
           have BK270 := n1_
           have HB := n2_
           have BK276 := n3_
           have GW276 := n4_
           have GE276 := n5_
           have NB270_276 := n6_
           have NB276_270 := n7_
           clear n0_ n1_ n2_ n3_ n4_ n5_ n6_ n7_
           clear hb hbox hg
           refine hK.out _ _ ⟨(blk_cell BK270.out 0).trans rfl, (blk_cell BK270.out 1).trans rfl, HS2_, (cB_ HB.out hw275_0), (cB_ HB.out hw275_1), (cB_ HB.out hw275_2), (cB_ HB.out hw275_3), (cB_ HB.out hw275_4), (cB_ HB.out hw275_5), (cB_ HB.out hw275_6), (cB_ HB.out hw275_7)⟩ (fun hHeld => ?_)
           clear hK K
           refine nq_ (b := ?_) (some 7) ?_
           refine oq_ (m := ?_) 11 none fun K hK => ?_
           have hs33 : w32.cell? ⟨gb276, 0, none⟩ = some (.int .u8 0) := (blk_cell BK276.out 0).trans rfl
           have hfs33 := blk_frozen BK276.out 0
           have hns33_0 := NB270_276.out
           have hms33_0 := NB276_270.out
           have hs34 : w32.cell? ⟨gb276, 1, none⟩ = some (.int .i64 0) := (blk_cell BK276.out 1).trans rfl
           have hfs34 := blk_frozen BK276.out 1
           have hns34_0 := NB270_276.out
           have hms34_0 := NB276_270.out
           have hs35 : w32.cell? ⟨gb276, 2, none⟩ = some (.int .i64 0) := (blk_cell BK276.out 2).trans rfl
           have hfs35 := blk_frozen BK276.out 2
           have hns35_0 := NB270_276.out
           have hms35_0 := NB276_270.out
           have hs36 : w32.cell? ⟨gb276, 3, none⟩ = some (.float .f64 0) := (blk_cell BK276.out 3).trans rfl
           have hfs36 := blk_frozen BK276.out 3
           have hns36_0 := NB270_276.out
           have hms36_0 := NB276_270.out
           have hs37 : w32.cell? ⟨gb276, 4, none⟩ = some (.slice none 0 0) := (blk_cell BK276.out 4).trans rfl
           have hfs37 := blk_frozen BK276.out 4
           have hns37_0 := NB270_276.out
           have hms37_0 := NB276_270.out
           have hs38 : w32.cell? ⟨gb276, 5, none⟩ = some (.int .u8 0) := (blk_cell BK276.out 5).trans rfl
           have hfs38 := blk_frozen BK276.out 5
           have hns38_0 := NB270_276.out
           have hms38_0 := NB276_270.out
           have hs39 : w32.cell? ⟨gb276, 6, none⟩ = some (.int .i64 0) := (blk_cell BK276.out 6).trans rfl
           have hfs39 := blk_frozen BK276.out 6
           have hns39_0 := NB270_276.out
           have hms39_0 := NB276_270.out
           have hs40 : w32.cell? ⟨gb276, 7, none⟩ = some (.int .i64 0) := (blk_cell BK276.out 7).trans rfl
           have hfs40 := blk_frozen BK276.out 7
           have hns40_0 := NB270_276.out
           have hms40_0 := NB276_270.out
           refine skip_ (w1 := ?_) (by rfl) rfl ?_ ?_
           rotate_left
           ·go_simp
            rfl
           refine hK.out _ _ ⟨((cell_far8 (g := gb276) NB270_276.out).trans (hHeld.1)), ((cell_far8 (g := gb276) NB270_276.out).trans (hHeld.2.1)), ((cell_far8 (g := gb276) (by first | exact Kd.own_blk (Kd.R_ne HO_6.out BK276.out (by decide)) | (rw [add_block]; exact Kd.own_blk (Kd.R_ne HO_6.out BK276.out (by decide))) | (show (Addr.add _ _).block ≠ _; rw [add_block]; exact Kd.own_blk (Kd.R_ne HO_6.out BK276.out (by decide))) | (dsimp only; exact Kd.own_blk (Kd.R_ne HO_6.out BK276.out (by decide))))).trans (hHeld.2.2.1)), ((cell_far8 (g := gb276) (by first | exact Nat.ne_of_lt (Nat.lt_of_lt_of_le (by have := World.block_lt_of_cell? _ _ hw275_0; first | rwa [add_block] at this | exact this) GW276.out) | (rw [add_block]; exact Nat.ne_of_lt (Nat.lt_of_lt_of_le (by have := World.block_lt_of_cell? _ _ hw275_0; first | rwa [add_block] at this | exact this) GW276.out)) | (show (Addr.add _ _).block ≠ _; rw [add_block]; exact Nat.ne_of_lt (Nat.lt_of_lt_of_le (by have := World.block_lt_of_cell? _ _ hw275_0; first | rwa [add_block] at this | exact this) GW276.out)) | (dsimp only; exact Nat.ne_of_lt (Nat.lt_of_lt_of_le (by have := World.block_lt_of_cell? _ _ hw275_0; first | rwa [add_block] at this | exact this) GW276.out)))).trans (hHeld.2.2.2.1)), ((cell_far8 (g := gb276) (by first | exact Nat.ne_of_lt (Nat.lt_of_lt_of_le (by have := World.block_lt_of_cell? _ _ hw275_1; first | rwa [add_block] at this | exact this) GW276.out) | (rw [add_block]; exact Nat.ne_of_lt (Nat.lt_of_lt_of_le (by have := World.block_lt_of_cell? _ _ hw275_1; first | rwa [add_block] at this | exact this) GW276.out)) | (show (Addr.add _ _).block ≠ _; rw [add_block]; exact Nat.ne_of_lt (Nat.lt_of_lt_of_le (by have := World.block_lt_of_cell? _ _ hw275_1; first | rwa [add_block] at this | exact this) GW276.out)) | (dsimp only; exact Nat.ne_of_lt (Nat.lt_of_lt_of_le (by have := World.block_lt_of_cell? _ _ hw275_1; first | rwa [add_block] at this | exact this) GW276.out)))).trans (hHeld.2.2.2.2.1)), ((cell_far8 (g := gb276) (by first | exact Nat.ne_of_lt (Nat.lt_of_lt_of_le (by have := World.block_lt_of_cell? _ _ hw275_2; first | rwa [add_block] at this | exact this) GW276.out) | (rw [add_block]; exact Nat.ne_of_lt (Nat.lt_of_lt_of_le (by have := World.block_lt_of_cell? _ _ hw275_2; first | rwa [add_block] at this | exact this) GW276.out)) | (show (Addr.add _ _).block ≠ _; rw [add_block]; exact Nat.ne_of_lt (Nat.lt_of_lt_of_le (by have := World.block_lt_of_cell? _ _ hw275_2; first | rwa [add_block] at this | exact this) GW276.out)) | (dsimp only; exact Nat.ne_of_lt (Nat.lt_of_lt_of_le (by have := World.block_lt_of_cell? _ _ hw275_2; first | rwa [add_block] at this | exact this) GW276.out)))).trans (hHeld.2.2.2.2.2.1)), ((cell_far8 (g := gb276) (by first | exact Nat.ne_of_lt (Nat.lt_of_lt_of_le (by have := World.block_lt_of_cell? _ _ hw275_3; first | rwa [add_block] at this | exact this) GW276.out) | (rw [add_block]; exact Nat.ne_of_lt (Nat.lt_of_lt_of_le (by have := World.block_lt_of_cell? _ _ hw275_3; first | rwa [add_block] at this | exact this) GW276.out)) | (show (Addr.add _ _).block ≠ _; rw [add_block]; exact Nat.ne_of_lt (Nat.lt_of_lt_of_le (by have := World.block_lt_of_cell? _ _ hw275_3; first | rwa [add_block] at this | exact this) GW276.out)) | (dsimp only; exact Nat.ne_of_lt (Nat.lt_of_lt_of_le (by have := World.block_lt_of_cell? _ _ hw275_3; first | rwa [add_block] at this | exact this) GW276.out)))).trans (hHeld.2.2.2.2.2.2.1)), ((cell_far8 (g := gb276) (by first | exact Nat.ne_of_lt (Nat.lt_of_lt_of_le (by have := World.block_lt_of_cell? _ _ hw275_4; first | rwa [add_block] at this | exact this) GW276.out) | (rw [add_block]; exact Nat.ne_of_lt (Nat.lt_of_lt_of_le (by have := World.block_lt_of_cell? _ _ hw275_4; first | rwa [add_block] at this | exact this) GW276.out)) | (show (Addr.add _ _).block ≠ _; rw [add_block]; exact Nat.ne_of_lt (Nat.lt_of_lt_of_le (by have := World.block_lt_of_cell? _ _ hw275_4; first | rwa [add_block] at this | exact this) GW276.out)) | (dsimp only; exact Nat.ne_of_lt (Nat.lt_of_lt_of_le (by have := World.block_lt_of_cell? _ _ hw275_4; first | rwa [add_block] at this | exact this) GW276.out)))).trans (hHeld.2.2.2.2.2.2.2.1)), ((cell_far8 (g := gb276) (by first | exact Nat.ne_of_lt (Nat.lt_of_lt_of_le (by have := World.block_lt_of_cell? _ _ hw275_5; first | rwa [add_block] at this | exact this) GW276.out) | (rw [add_block]; exact Nat.ne_of_lt (Nat.lt_of_lt_of_le (by have := World.block_lt_of_cell? _ _ hw275_5; first | rwa [add_block] at this | exact this) GW276.out)) | (show (Addr.add _ _).block ≠ _; rw [add_block]; exact Nat.ne_of_lt (Nat.lt_of_lt_of_le (by have := World.block_lt_of_cell? _ _ hw275_5; first | rwa [add_block] at this | exact this) GW276.out)) | (dsimp only; exact Nat.ne_of_lt (Nat.lt_of_lt_of_le (by have := World.block_lt_of_cell? _ _ hw275_5; first | rwa [add_block] at this | exact this) GW276.out)))).trans (hHeld.2.2.2.2.2.2.2.2.1)), ((cell_far8 (g := gb276) (by first | exact Nat.ne_of_lt (Nat.lt_of_lt_of_le (by have := World.block_lt_of_cell? _ _ hw275_6; first | rwa [add_block] at this | exact this) GW276.out) | (rw [add_block]; exact Nat.ne_of_lt (Nat.lt_of_lt_of_le (by have := World.block_lt_of_cell? _ _ hw275_6; first | rwa [add_block] at this | exact this) GW276.out)) | (show (Addr.add _ _).block ≠ _; rw [add_block]; exact Nat.ne_of_lt (Nat.lt_of_lt_of_le (by have := World.block_lt_of_cell? _ _ hw275_6; first | rwa [add_block] at this | exact this) GW276.out)) | (dsimp only; exact Nat.ne_of_lt (Nat.lt_of_lt_of_le (by have := World.block_lt_of_cell? _ _ hw275_6; first | rwa [add_block] at this | exact this) GW276.out)))).trans (hHeld.2.2.2.2.2.2.2.2.2.1)), ((cell_far8 (g := gb276) (by first | exact Nat.ne_of_lt (Nat.lt_of_lt_of_le (by have := World.block_lt_of_cell? _ _ hw275_7; first | rwa [add_block] at this | exact this) GW276.out) | (rw [add_block]; exact Nat.ne_of_lt (Nat.lt_of_lt_of_le (by have := World.block_lt_of_cell? _ _ hw275_7; first | rwa [add_block] at this | exact this) GW276.out)) | (show (Addr.add _ _).block ≠ _; rw [add_block]; exact Nat.ne_of_lt (Nat.lt_of_lt_of_le (by have := World.block_lt_of_cell? _ _ hw275_7; first | rwa [add_block] at this | exact this) GW276.out)) | (dsimp only; exact Nat.ne_of_lt (Nat.lt_of_lt_of_le (by have := World.block_lt_of_cell? _ _ hw275_7; first | rwa [add_block] at this | exact this) GW276.out)))).trans (hHeld.2.2.2.2.2.2.2.2.2.2))⟩ (fun hHeld => ?_)
           clear hK K
           refine done_ (done_of HT_.out (by kernel_rfl)) ?_
           have n0_ : Aside0 (Kd.R (Kd.int .i64) 3 ((((((((w32.setCell ⟨gb276, 0, none⟩ (.int .u8 ((rd_T71 l0_1 (rd x6_1 (ji7))).f0))).setCell ⟨gb276, 1, none⟩ (.int .i64 ((rd_T71 l0_1 (rd x6_1 (ji7))).f1))).setCell ⟨gb276, 2, none⟩ (.int .i64 ((rd_T71 l0_1 (rd x6_1 (ji7))).f2))).setCell ⟨gb276, 3, none⟩ (.float .f64 ((rd_T71 l0_1 (rd x6_1 (ji7))).f3))).setCell ⟨gb276, 4, none⟩ (.slice A275_4 ((rd_T71 l0_1 (rd x6_1 (ji7))).f4).length c275_4)).setCell ⟨gb276, 5, none⟩ (.int .u8 ((rd_T71 l0_1 (rd x6_1 (ji7))).f5))).setCell ⟨gb276, 6, none⟩ (.int .i64 ((rd_T71 l0_1 (rd x6_1 (ji7))).f6))).setCell ⟨gb276, 7, none⟩ (.int .i64 ((rd_T71 l0_1 (rd x6_1 (ji7))).f7))) w.heap.size (fun _ => True) (.slice (some ad274) x6_1.length co30) x6_1) := ⟨by (with_reducible repeat (first | apply Kd.R_alloc | apply Kd.R_drewN | apply Kd.R_drew)); exact Kd.R_mono (Kd.R_far8 (Kd.R_types HO_6.out BK276.out (by decide)) (fun _ hk => hk.2) _ _ _ _ _ _ _ _) (fun _ hk => trivial)⟩
           have n1_ : Aside0 (((((((((w32.setCell ⟨gb276, 0, none⟩ (.int .u8 ((rd_T71 l0_1 (rd x6_1 (ji7))).f0))).setCell ⟨gb276, 1, none⟩ (.int .i64 ((rd_T71 l0_1 (rd x6_1 (ji7))).f1))).setCell ⟨gb276, 2, none⟩ (.int .i64 ((rd_T71 l0_1 (rd x6_1 (ji7))).f2))).setCell ⟨gb276, 3, none⟩ (.float .f64 ((rd_T71 l0_1 (rd x6_1 (ji7))).f3))).setCell ⟨gb276, 4, none⟩ (.slice A275_4 ((rd_T71 l0_1 (rd x6_1 (ji7))).f4).length c275_4)).setCell ⟨gb276, 5, none⟩ (.int .u8 ((rd_T71 l0_1 (rd x6_1 (ji7))).f5))).setCell ⟨gb276, 6, none⟩ (.int .i64 ((rd_T71 l0_1 (rd x6_1 (ji7))).f6))).setCell ⟨gb276, 7, none⟩ (.int .i64 ((rd_T71 l0_1 (rd x6_1 (ji7))).f7))).heap[gb270]? = some (.cells #[.int .i64 a0_0, .slice (some ad275) l0_1.length c0_1] 53 (0, 0))) := ⟨by (with_reducible repeat (first | refine blk_drewN ?_ _ | refine blk_drew ?_ | refine blk_alloc ?_ _)); refine blk_far8 ?_ NB270_276.out _ _ _ _ _ _ _ _; (with_reducible repeat (first | refine blk_drewN ?_ _ | refine blk_drew ?_ | refine blk_alloc ?_ _)); exact BK270.out⟩
           have n2_ : Aside0 (((((((((w32.setCell ⟨gb276, 0, none⟩ (.int .u8 ((rd_T71 l0_1 (rd x6_1 (ji7))).f0))).setCell ⟨gb276, 1, none⟩ (.int .i64 ((rd_T71 l0_1 (rd x6_1 (ji7))).f1))).setCell ⟨gb276, 2, none⟩ (.int .i64 ((rd_T71 l0_1 (rd x6_1 (ji7))).f2))).setCell ⟨gb276, 3, none⟩ (.float .f64 ((rd_T71 l0_1 (rd x6_1 (ji7))).f3))).setCell ⟨gb276, 4, none⟩ (.slice A275_4 ((rd_T71 l0_1 (rd x6_1 (ji7))).f4).length c275_4)).setCell ⟨gb276, 5, none⟩ (.int .u8 ((rd_T71 l0_1 (rd x6_1 (ji7))).f5))).setCell ⟨gb276, 6, none⟩ (.int .i64 ((rd_T71 l0_1 (rd x6_1 (ji7))).f6))).setCell ⟨gb276, 7, none⟩ (.int .i64 ((rd_T71 l0_1 (rd x6_1 (ji7))).f7))).heap[gb276]? = some (.cells #[.int .u8 ((rd_T71 l0_1 (rd x6_1 (ji7))).f0), .int .i64 ((rd_T71 l0_1 (rd x6_1 (ji7))).f1), .int .i64 ((rd_T71 l0_1 (rd x6_1 (ji7))).f2), .float .f64 ((rd_T71 l0_1 (rd x6_1 (ji7))).f3), .slice A275_4 ((rd_T71 l0_1 (rd x6_1 (ji7))).f4).length c275_4, .int .u8 ((rd_T71 l0_1 (rd x6_1 (ji7))).f5), .int .i64 ((rd_T71 l0_1 (rd x6_1 (ji7))).f6), .int .i64 ((rd_T71 l0_1 (rd x6_1 (ji7))).f7)] 71 (0, 0))) := ⟨by (with_reducible repeat (first | refine blk_drewN ?_ _ | refine blk_drew ?_ | refine blk_alloc ?_ _)); exact blk_put8 (kb BK276) _ _ _ _ _ _ _ _⟩
           have n3_ : Aside0 (Below w.heap.size w ((((((((w32.setCell ⟨gb276, 0, none⟩ (.int .u8 ((rd_T71 l0_1 (rd x6_1 (ji7))).f0))).setCell ⟨gb276, 1, none⟩ (.int .i64 ((rd_T71 l0_1 (rd x6_1 (ji7))).f1))).setCell ⟨gb276, 2, none⟩ (.int .i64 ((rd_T71 l0_1 (rd x6_1 (ji7))).f2))).setCell ⟨gb276, 3, none⟩ (.float .f64 ((rd_T71 l0_1 (rd x6_1 (ji7))).f3))).setCell ⟨gb276, 4, none⟩ (.slice A275_4 ((rd_T71 l0_1 (rd x6_1 (ji7))).f4).length c275_4)).setCell ⟨gb276, 5, none⟩ (.int .u8 ((rd_T71 l0_1 (rd x6_1 (ji7))).f5))).setCell ⟨gb276, 6, none⟩ (.int .i64 ((rd_T71 l0_1 (rd x6_1 (ji7))).f6))).setCell ⟨gb276, 7, none⟩ (.int .i64 ((rd_T71 l0_1 (rd x6_1 (ji7))).f7)))) := ⟨kB2 HB GE270 GE276⟩
           (try clear HO_6)
           (try clear BK270)
           (try clear BK276)
           (try clear HB)
           generalize ((((((((w32.setCell ⟨gb276, 0, none⟩ (.int .u8 ((rd_T71 l0_1 (rd x6_1 (ji7))).f0))).setCell ⟨gb276, 1, none⟩ (.int .i64 ((rd_T71 l0_1 (rd x6_1 (ji7))).f1))).setCell ⟨gb276, 2, none⟩ (.int .i64 ((rd_T71 l0_1 (rd x6_1 (ji7))).f2))).setCell ⟨gb276, 3, none⟩ (.float .f64 ((rd_T71 l0_1 (rd x6_1 (ji7))).f3))).setCell ⟨gb276, 4, none⟩ (.slice A275_4 ((rd_T71 l0_1 (rd x6_1 (ji7))).f4).length c275_4)).setCell ⟨gb276, 5, none⟩ (.int .u8 ((rd_T71 l0_1 (rd x6_1 (ji7))).f5))).setCell ⟨gb276, 6, none⟩ (.int .i64 ((rd_T71 l0_1 (rd x6_1 (ji7))).f6))).setCell ⟨gb276, 7, none⟩ (.int .i64 ((rd_T71 l0_1 (rd x6_1 (ji7))).f7))) = w41 at n0_ n1_ n2_ n3_ ⊢
           have HO_6 := n0_
           have BK270 := n1_
           have BK276 := n2_
           have HB := n3_
           clear n0_ n1_ n2_ n3_
           have q42 : ((ji7) : Int) ≤ ((x6_1.length : Int) : Int) := of_decide_eq_true ka
           obtain ⟨i042, hi042, _, hsz42, _⟩ := info_parts info3
           have hcut42 := cut_to (P := Try.prog) 54 3 .i64 Try.underlying54 hi042 (some ad274) x6_1.length co30 (ji7) (of_decide_eq_true ka) q42 (Kd.R_reads' HO_6.out).2.1
           have hr42 := Kd.R_take (m := ((ji7) : Int).toNat) HO_6.out (by omega)
           have hy42 : y277.length = ((ji7) : Int).toNat := (by rw [Ny277.out, List.length_take]; omega)
           rw [← Ny277.out] at hr42
           rw [← hy42] at hr42 hcut42
           clear hy42 hi042 hsz42 HO_6
           have HO279 := aS_ hr42
           clear hr42
           replace q42 := eq_true q42
           have hnb43 := NB276_270.out
           have hnc43 := NB270_276.out
           have hcz44 := blk8 (w := w41) BK276.out
           try go_wp2_with (first | ((with_reducible refine gate_dst (N := 38) rfl ?_); refine Kd.R_lit (Kd.int .i64) _ 3 ?hg (N := 38) ?hd (xs := ([(rd_T71 l0_1 (rd x6_1 (ji7))).f6, (rd_T71 l0_1 (rd x6_1 (ji7))).f7] : List Int)) (inner := [.int .i64 ((rd_T71 l0_1 (rd x6_1 (ji7))).f6), .int .i64 ((rd_T71 l0_1 (rd x6_1 (ji7))).f7)]) (ok := fun _ => True) (okp := fun _ => True) ?hr ?hp (fun _ hk => hk) trivial (Below.refl _ _) (Nat.le_refl _) (by simp) ?_; (case hd => rfl); (case hg => rfl); (case hr => first | (go_simp; done) | (go_simp; rfl)); (case hp => exact (Reps.one (show Kd.M (Kd.int .i64) _ _ _ ((rd_T71 l0_1 (rd x6_1 (ji7))).f6) [.int .i64 ((rd_T71 l0_1 (rd x6_1 (ji7))).f6)] from rfl) (Reps.one (show Kd.M (Kd.int .i64) _ _ _ ((rd_T71 l0_1 (rd x6_1 (ji7))).f7) [.int .i64 ((rd_T71 l0_1 (rd x6_1 (ji7))).f7)] from rfl) (Reps.none _ _)))); intro v281 w45 ho46 hb hg_ hnew_; clear hg_ hnew_; (first | rw [← Ny280.out] at ho46 | (simp only [Int.reduceToNat] at ho46; rw [← Ny280.out] at ho46)); have n0_ := aS_ (Kd.R_elder' (kR HO279) (Kd.R_base ho46) hb); have n1_ := aS_ (Kd.R_lower (Kd.R_new' ho46 (Kd.R_lt (kR HO279))) (below_size (kB2 HB GE270 GE276))); have n2_ := aS_ (blk_below (g := gb270) (o := .cells #[.int .i64 a0_0, .slice (some ad275) l0_1.length c0_1] 53 (0, 0)) (kb BK270) hb); have n3_ := aS_ (blk_below (g := gb276) (o := .cells #[.int .u8 ((rd_T71 l0_1 (rd x6_1 (ji7))).f0), .int .i64 ((rd_T71 l0_1 (rd x6_1 (ji7))).f1), .int .i64 ((rd_T71 l0_1 (rd x6_1 (ji7))).f2), .float .f64 ((rd_T71 l0_1 (rd x6_1 (ji7))).f3), .slice A275_4 ((rd_T71 l0_1 (rd x6_1 (ji7))).f4).length c275_4, .int .u8 ((rd_T71 l0_1 (rd x6_1 (ji7))).f5), .int .i64 ((rd_T71 l0_1 (rd x6_1 (ji7))).f6), .int .i64 ((rd_T71 l0_1 (rd x6_1 (ji7))).f7)] 71 (0, 0)) (kb BK276) hb); have n4_ := aS_ (below_step (kB2 HB GE270 GE276) hb); clear HO279; clear BK270; clear BK276; clear HB; have HO279 := n0_; have HO282 := n1_; have BK270 := n2_; have BK276 := n3_; have HB := n4_; clear n0_ n1_ n2_ n3_ n4_; clear hb ho46; obtain ⟨Ao48, co48, eo48⟩ := Kd.R_slice HO282.out; subst eo48) | ((with_reducible refine gate_builtin (b := .append) (xs := #[.tmp 33, .tmp 38]) rfl ?_); at_builtin; refine Kd.R_append_rows (Kd.int .i64) (w0 := w) w.heap.size rfl (.tmp 33) (.tmp 38) 54 3 (.int .i64 0) 8 rfl Try.underlying54 info3 rfl (by decide) (by omega) (.slice (some ad274) y277.length co30) y277 y280 _ _ _ (fun k_ => some k_ ≠ (.slice Ao48 y280.length co48 : Value).ownBlock) (fun _ => False) rfl rfl ?aO ?aR (fun _ _ h => h) (fun _ h => h.elim) ?aF ?aB ?aS ?aL ?_; (case aR => repeat (first | exact (Kd.R_reads' HO282.out).2.2 | (with_reducible refine Kd.C_alloc ?_ _) | (with_reducible refine Kd.C_drewN ?_ _) | (with_reducible refine Kd.C_drew ?_))); (case aB => exact (kB2 HB GE270 GE276)); (case aF => exact (fun k_ hk => Kd.fresh' (Kd.R_lt (kR HO282)) k_ hk)); (case aO => exact (by (with_reducible repeat (first | apply Kd.R_alloc | apply Kd.R_drewN | apply Kd.R_drew)); exact Kd.R_mono HO279.out (fun _ hk => hk.2))); (case aS => exact (below_size (kB2 HB GE270 GE276))); (case aL => have := LMc29.out; omega); intro v284 w47 ho hb hg hat; rw [← Ny283.out] at ho; have n0_ := aS_ (blk_grown (g := gb270) (o := .cells #[.int .i64 a0_0, .slice (some ad275) l0_1.length c0_1] 53 (0, 0)) (kb BK270) hg (Kd.R_ne HO279.out BK270.out (by decide))); have n1_ := aS_ (blk_grown (g := gb276) (o := .cells #[.int .u8 ((rd_T71 l0_1 (rd x6_1 (ji7))).f0), .int .i64 ((rd_T71 l0_1 (rd x6_1 (ji7))).f1), .int .i64 ((rd_T71 l0_1 (rd x6_1 (ji7))).f2), .float .f64 ((rd_T71 l0_1 (rd x6_1 (ji7))).f3), .slice A275_4 ((rd_T71 l0_1 (rd x6_1 (ji7))).f4).length c275_4, .int .u8 ((rd_T71 l0_1 (rd x6_1 (ji7))).f5), .int .i64 ((rd_T71 l0_1 (rd x6_1 (ji7))).f6), .int .i64 ((rd_T71 l0_1 (rd x6_1 (ji7))).f7)] 71 (0, 0)) (kb BK276) hg (Kd.R_ne HO279.out BK276.out (by decide))); have n2_ := aS_ (Kd.R_after (ok := (fun _ => True)) (kR HO282) hg hat); have n3_ := aS_ (hb); have n4_ := aS_ (ho); clear BK270; clear BK276; clear HO282; clear HB; clear HO279; have BK270 := n0_; have BK276 := n1_; have HO282 := n2_; have HB := n3_; have HO285 := n4_; clear n0_ n1_ n2_ n3_ n4_; clear ho hb hg hat))
           go_roundg k1
           case measure => have := HK1.out; omega
           case rel => exact ⟨(x5_1), (y283), kr, H', ⟨by have := HK1.out; omega⟩, ⟨by (with_reducible repeat (first | apply Kd.R_alloc | apply Kd.R_drewN | apply Kd.R_drew)); exact Kd.R_mono HO285.out (fun _ hk => trivial)⟩, ⟨kb BK270⟩, ⟨kB2 HB GE270 GE276⟩⟩
          ·rw [if_neg c29] at H
           exact absurd H (by simp)
        ·rw [if_neg c12] at H
         exact absurd H (by simp)
       ·rw [if_neg c11] at H
        exact absurd H (by simp)
      ·rw [if_neg c10] at H
       exact absurd H (by simp)
     ·rw [if_neg c9] at H
      exact absurd H (by simp)
    ·rw [if_neg c8] at H
     exact absurd H (by simp)
   ·rw [if_neg c6] at H
    have c6b0 := decide_eq_false c6
    have c6b1 : decide (0 < x6_1.length) = false := decide_eq_false (by omega)
    clear c6
    obtain rfl := Option.some.inj H
    obtain ⟨Ao49, co49, eo49⟩ := Kd.R_slice HO_6.out
    subst eo49
    go_wp2
    go_ret
    exact ⟨by first | rfl | (simp [errW_none, errW_some] <;> rfl) | (simp [*, errW_none, errW_some] <;> rfl), kB1 HB GE270⟩
end Go.Proofs.Ytfmjgjfbnilpoaa.FAll
