-- written by fprint.sh, a program of ours over the kit's print: not by hand
import Derived.Test.YtfmjgjfbnilpoaaZq
import Derived.Test.YtfmjgjfbnilpoaaEi
import Derived.Test.YtfmjgjfbnilpoaaFAllx0
namespace Go.Proofs.Ytfmjgjfbnilpoaa.FAll
open Go.RowKit YtfmjgjfbnilpoaaW.PrintWords YtfmjgjfbnilpoaaW.PrintLast YtfmjgjfbnilpoaaW.PrintMore
attribute [local go_sem] feq_walk fne_walk flt_walk fle_walk fgt_walk fge_walk fint_walk fstore_walk run_f64bits run_f64from max2_int min2_int max_two min_two max_three min_three max_four min_four   -- for this text's walks alone
set_option linter.unusedVariables false
set_option linter.unusedSimpArgs false

/-! ### thicketref07_Nodes: function 40 -/
def thicketref07_Nodes.l0 : Nat → List (S71) → List (S71) → Int → Int → Option ((List (S71)))
  | 0, _, _, _, _ => none
  | k + 1, x3, x7, x8, x9 => if x9 < x8 then (if 0 ≤ x9 then (if x9 < (x7.length : Int) then (if ([] : List Int).length + ((rd_T71 x7 x9).f4).length < 17592186044416 then (if x3.length < 1759218604441 then (thicketref07_Nodes.l0 k (x3 ++ [(⟨(rd_T71 x7 x9).f0, (rd_T71 x7 x9).f1, (rd_T71 x7 x9).f2, (rd_T71 x7 x9).f3, (([] : List Int) ++ ((rd_T71 x7 x9).f4)), (rd_T71 x7 x9).f5, (rd_T71 x7 x9).f6, (rd_T71 x7 x9).f7⟩ : S71)]) x7 x8 (wrap64 (x9 + 1))) else (none)) else (none)) else (none)) else (none)) else (some x3)
def thicketref07_Nodes.f (k : Nat) (l0 : List (S71)) : Option ((List (S71))) := thicketref07_Nodes.l0 k ([] : List (S71)) l0 (l0.length : Int) 0
theorem thicketref07_Nodes.mono_l : ∀ k, (∀ y0 y1 y2 y3, LeO (thicketref07_Nodes.l0 k y0 y1 y2 y3) (thicketref07_Nodes.l0 (k + 1) y0 y1 y2 y3))
  | 0 => fun _ _ _ _ r h => by simp [thicketref07_Nodes.l0] at h
  | k + 1 => by
    have ih0 := thicketref07_Nodes.mono_l k
    · intro y0 y1 y2 y3
      unfold thicketref07_Nodes.l0
      repeat' first
      | (with_reducible exact ih0 _ _ _ _)
      | (with_reducible exact LeO.refl _)
      | (with_reducible exact LeO.none _)
      | (with_reducible refine LeO.ite ?_ ?_)
      | (with_reducible refine LeO.bind ?_ (fun _ => ?_))
theorem thicketref07_Nodes.mono : ∀ a0 k, LeO (thicketref07_Nodes.f k a0) (thicketref07_Nodes.f (k + 1) a0) := by
  intro a0 k
  have ih0 := thicketref07_Nodes.mono_l k
  unfold thicketref07_Nodes.f
  repeat' first
      | (with_reducible exact ih0 _ _ _ _)
      | (with_reducible exact LeO.refl _)
      | (with_reducible exact LeO.none _)
      | (with_reducible refine LeO.ite ?_ ?_)
      | (with_reducible refine LeO.bind ?_ (fun _ => ?_))
set_option maxHeartbeats 8000000 in
set_option maxRecDepth 100000 in
theorem thicketref07_Nodes.calls (k : Nat) (A0 : Option Addr) (c0 : Nat) (l0 : List (S71)) (r : List (S71)) (w : World) (hr0 : Kd.C k71 w A0 l0.length l0) (hc0 : l0.length ≤ c0) (h : thicketref07_Nodes.f k l0 = some r) :
    Calls Try.prog 40 #[.slice A0 l0.length c0] w fun e w' => ∃ v0_ : Value, e = .returned (v0_) ∧ Kd.S k71 71 w' w.heap.size (fun _ => True) v0_ r ∧ Below w.heap.size w w' := by
  have hu71 := Try.underlying71
  have HR0 := aS_ hr0
  have HC0 := aS_ hc0
  clear hr0 hc0
  have HB := aS_ (Below.refl w.heap.size w)
  have H : (thicketref07_Nodes.l0 k ([] : List (S71)) l0 (l0.length : Int) 0) = some r := h
  clear h
  have H' := aS_ H
  clear H
  go_enter Try.func40, Try.ntmps40
  go_wp2
  go_loopg [3, 9] k (fun kq v3 v9 w' => ∃ (x3_1 : List (S71)) (x9_1 : Int), v9 = .int .i64 x9_1 ∧ Aside0 (thicketref07_Nodes.l0 kq x3_1 l0 (l0.length : Int) x9_1 = some r) ∧ Aside0 (kq ≤ k) ∧ Aside0 (Kd.S k71 71 w' w.heap.size (fun _ => True) v3 x3_1) ∧ Aside0 (Below w.heap.size w w'))
  case atStart => exact ⟨(([] : List (S71))), (0), kr, H', ⟨Nat.le_refl _⟩, ⟨by first | exact Kd.S_nil _ _ _ _ _ | exact Kd.N_nil _ _ _ _ _ | exact Kd.V_nil _ _ _ _ _ | exact Kd.Q_nil _ _ _ _ _ | exact Kd.R_nil _ _ _ _ _⟩, ⟨kB0 HB⟩⟩
  case round =>
    clear H'
    obtain ⟨x3_1, x9_1, rfl, HA, HK1, HO_3, HB⟩ := hrel
    cases gk with
    | zero => exact absurd HA.out (by simp [thicketref07_Nodes.l0])
    | succ k1 =>
      have H := HA.out
      clear HA
      simp only [thicketref07_Nodes.l0] at H
      by_cases c2 : x9_1 < (l0.length : Int)
      · rw [if_pos c2] at H
        have c2b0 := decide_eq_true c2
        clear c2
        by_cases c3 : 0 ≤ x9_1
        · rw [if_pos c3] at H
          have c3b0 := decide_eq_true c3
          clear c3
          by_cases c4 : x9_1 < (l0.length : Int)
          · rw [if_pos c4] at H
            have c4b0 := decide_eq_true c4
            clear c4
            by_cases c5 : ([] : List Int).length + ((rd_T71 l0 x9_1).f4).length < 17592186044416
            · rw [if_pos c5] at H
              have LMc5 := aS_ c5
              clear c5
              obtain ⟨y103, hy103⟩ : ∃ y_ : List Int, y_ = (([] : List Int) ++ ((rd_T71 l0 x9_1).f4)) := ⟨_, rfl⟩
              replace H : (if x3_1.length < 1759218604441 then (thicketref07_Nodes.l0 k1 (x3_1 ++ [(⟨(rd_T71 l0 x9_1).f0, (rd_T71 l0 x9_1).f1, (rd_T71 l0 x9_1).f2, (rd_T71 l0 x9_1).f3, y103, (rd_T71 l0 x9_1).f5, (rd_T71 l0 x9_1).f6, (rd_T71 l0 x9_1).f7⟩ : S71)]) l0 (l0.length : Int) (wrap64 (x9_1 + 1))) else (none)) = some r := by first | (rw [hy103]; with_reducible exact H) | (have H2_ := (Option.bind_some _ _).symm.trans H; rw [hy103]; with_reducible exact H2_) | (have H2_ := (Option.bind_some _ _).symm.trans H; with_reducible exact H2_) | with_reducible exact H | (rw [hy103]; exact H) | exact H
              have Ny103 := aS_ hy103
              clear hy103
              by_cases c6 : x3_1.length < 1759218604441
              · rw [if_pos c6] at H
                have LMc6 := aS_ c6
                clear c6
                obtain ⟨y106, hy106⟩ : ∃ y_ : List (S71), y_ = (x3_1 ++ [(⟨(rd_T71 l0 x9_1).f0, (rd_T71 l0 x9_1).f1, (rd_T71 l0 x9_1).f2, (rd_T71 l0 x9_1).f3, y103, (rd_T71 l0 x9_1).f5, (rd_T71 l0 x9_1).f6, (rd_T71 l0 x9_1).f7⟩ : S71)]) := ⟨_, rfl⟩
                (try replace H := bS_ H); rw [← hy106] at H; try dsimp only at H
                have Ny106 := aS_ hy106
                clear hy106
                have H' := aS_ H
                clear H
                have p101 : 0 ≤ (x9_1 : Int) := of_decide_eq_true ka
                have q101 : x9_1 < (l0.length : Int) := of_decide_eq_true ka
                obtain ⟨ad101, A101_4, c101_4, e101, hx101_0, hx101_1, hx101_2, hx101_3, hx101_4, hx101_5, hx101_6, hx101_7, hl101_4, hi101_4⟩ := at_T71 HR0.out x9_1 p101 q101
                cases e101
                replace hx101_0 := cB_ HB.out hx101_0
                replace hx101_1 := cB_ HB.out hx101_1
                replace hx101_2 := cB_ HB.out hx101_2
                replace hx101_3 := cB_ HB.out hx101_3
                replace hx101_4 := cB_ HB.out hx101_4
                replace hx101_5 := cB_ HB.out hx101_5
                replace hx101_6 := cB_ HB.out hx101_6
                replace hx101_7 := cB_ HB.out hx101_7
                have HR101_4 := aS_ hi101_4
                have HC101_4 := aS_ hl101_4
                clear hi101_4 hl101_4
                replace p101 := eq_true p101
                replace q101 := eq_true q101
                go_wp2_with (first | ((with_reducible refine gate_dst (N := 5) rfl ?_); refine box_event ?hg (N := 5) ?hd (cs := #[.int .u8 0, .int .i64 0, .int .i64 0, .float .f64 0, .slice none 0 0, .int .u8 0, .int .i64 0, .int .i64 0]) (t := 71) ?hr ?_; (case hd => rfl); (case hg => rfl); (case hr => first | (go_simp; done) | (go_simp; rfl)); intro gb102 hg w7 hbox hb; have n0_ := aS_ (Kd.S_below (Kd.S_elderB (by (with_reducible repeat (first | apply Kd.S_alloc | apply Kd.S_drewN | apply Kd.S_drew)); exact HO_3.out) gb102 (Nat.le_of_eq hg.symm)) hb); have n1_ := aS_ (below_step (kB0 HB) hb); have n2_ := aS_ (hbox); have n3_ := aS_ ((kg hg (kB0 HB) : w.heap.size ≤ gb102)); have n4_ := aS_ ((kg hg (kB0 HB) : w.heap.size ≤ gb102)); clear HO_3; clear HB; have HO_3 := n0_; have HB := n1_; have BK102 := n2_; have GW102 := n3_; have GE102 := n4_; clear n0_ n1_ n2_ n3_ n4_; clear hb hbox hg; have hcz8 := blk8 (w := w7) BK102.out) | ((with_reducible refine gate_builtin (b := .append) (xs := #[.tmp 13, .tmp 15]) rfl ?_); at_builtin; refine Kd.R_append_rows (Kd.int .i64) (w0 := w) w.heap.size rfl (.tmp 13) (.tmp 15) 54 3 (.int .i64 0) 8 rfl Try.underlying54 info3 rfl (by decide) (by omega) (.slice none 0 0) ([] : List Int) ((rd_T71 l0 x9_1).f4) _ _ _ (fun _ => True) (fun _ => False) rfl rfl ?aO ?aR (fun _ _ h => h) (fun _ h => h.elim) ?aF ?aB ?aS ?aL ?_; (case aR => exact Kd.C_below HR101_4.out (kB1 HB GE102)); (case aB => exact (kB1 HB GE102)); (case aF => exact (fun _ _ => trivial)); (case aO => exact ((Kd.R_nil _ _ _ _ (fun _ => True)))); (case aS => exact (below_size (kB1 HB GE102))); (case aL => have := LMc5.out; omega); intro v104 w9 ho hb hg hat; rw [← Ny103.out] at ho; have n0_ := aS_ (Kd.S_after (Kd.S_apart_nil (by (with_reducible repeat (first | apply Kd.S_alloc | apply Kd.S_drewN | apply Kd.S_drew)); exact (Kd.S_mono (Kd.S_far (p := ⟨gb102, 7, none⟩) (Kd.S_far (p := ⟨gb102, 6, none⟩) (Kd.S_far (p := ⟨gb102, 5, none⟩) (Kd.S_far (p := ⟨gb102, 4, none⟩) (Kd.S_far (p := ⟨gb102, 3, none⟩) (Kd.S_far (p := ⟨gb102, 2, none⟩) (Kd.S_far (p := ⟨gb102, 1, none⟩) (Kd.S_far (p := ⟨gb102, 0, none⟩) (Kd.S_mono HO_3.out (fun k_ hk => (⟨hk, hk.2⟩ : _ ∧ k_ ≠ gb102))) (fun _ hk => hk.2) (.int .u8 ((rd_T71 l0 x9_1).f0))) (fun _ hk => hk.2) (.int .i64 ((rd_T71 l0 x9_1).f1))) (fun _ hk => hk.2) (.int .i64 ((rd_T71 l0 x9_1).f2))) (fun _ hk => hk.2) (.float .f64 ((rd_T71 l0 x9_1).f3))) (fun _ hk => hk.2) (.slice A101_4 ((rd_T71 l0 x9_1).f4).length c101_4)) (fun _ hk => hk.2) (.int .u8 ((rd_T71 l0 x9_1).f5))) (fun _ hk => hk.2) (.int .i64 ((rd_T71 l0 x9_1).f6))) (fun _ hk => hk.2) (.int .i64 ((rd_T71 l0 x9_1).f7))) (fun _ h_ => h_.1)))) hg hat); have n1_ := aS_ (blk_grown (g := gb102) (o := .cells #[.int .u8 ((rd_T71 l0 x9_1).f0), .int .i64 ((rd_T71 l0 x9_1).f1), .int .i64 ((rd_T71 l0 x9_1).f2), .float .f64 ((rd_T71 l0 x9_1).f3), .slice A101_4 ((rd_T71 l0 x9_1).f4).length c101_4, .int .u8 ((rd_T71 l0 x9_1).f5), .int .i64 ((rd_T71 l0 x9_1).f6), .int .i64 ((rd_T71 l0 x9_1).f7)] 71 (0, 0)) (by (with_reducible repeat (first | refine blk_drewN ?_ _ | refine blk_drew ?_ | refine blk_alloc ?_ _)); exact blk_put8 (kb BK102) _ _ _ _ _ _ _ _) hg (by simp [Value.ownBlock])); have n2_ := aS_ (hb); have n3_ := aS_ (ho); clear HO_3; clear BK102; clear HB; have HO_3 := n0_; have BK102 := n1_; have HB := n2_; have HO105 := n3_; clear n0_ n1_ n2_ n3_; clear ho hb hg hat; obtain ⟨Ao10, co10, eo10⟩ := Kd.R_slice HO105.out; subst eo10; have hcz11 := blk8 (w := w9) BK102.out) | ((with_reducible refine gate_store (t := 54) (p := 17) rfl ?_); refine store_event (t := 54) (p := 17) (v := ?vo_w12) (w1 := (w9.setCell ⟨gb102, 4, none⟩ (.slice Ao10 y103.length co10))) ?hg ?ho ?hn ?hr ?_; (case ho => rfl); (case hg => rfl); (case hn => rfl); (case hr => first | (go_simp; done) | (go_simp; rfl)); intro w12 hw; have n0_ : Aside0 (Kd.S k71 71 w12 w.heap.size (fun k_ => some k_ ≠ (.slice Ao10 y103.length co10 : Value).ownBlock ∧ k_ ≠ gb102) u3 x3_1) := ⟨(by rw [hw]; exact (by (with_reducible repeat (first | apply Kd.S_alloc | apply Kd.S_drewN | apply Kd.S_drew)); exact Kd.S_mono (Kd.S_far (p := ⟨gb102, 4, none⟩) (Kd.S_mono HO_3.out (fun k_ hk => (⟨hk, hk.1.2⟩ : _ ∧ k_ ≠ gb102))) (fun _ hk => hk.2) (.slice Ao10 y103.length co10)) (fun _ hk => ⟨hk.1.2, hk.1.1.2⟩)))⟩; have n1_ : Aside0 (Kd.R (Kd.int .i64) 3 w12 w.heap.size (fun _ => True) (.slice Ao10 y103.length co10) y103) := ⟨(by rw [hw]; exact (by (with_reducible repeat (first | apply Kd.R_alloc | apply Kd.R_drewN | apply Kd.R_drew)); exact Kd.R_mono (Kd.R_far (p := ⟨gb102, 4, none⟩) (Kd.R_types HO105.out BK102.out (by decide)) (fun _ hk => hk.2) (.slice Ao10 y103.length co10)) (fun _ hk => trivial)))⟩; have n2_ : Aside0 (w12.heap[gb102]? = some (.cells #[.int .u8 ((rd_T71 l0 x9_1).f0), .int .i64 ((rd_T71 l0 x9_1).f1), .int .i64 ((rd_T71 l0 x9_1).f2), .float .f64 ((rd_T71 l0 x9_1).f3), .slice Ao10 y103.length co10, .int .u8 ((rd_T71 l0 x9_1).f5), .int .i64 ((rd_T71 l0 x9_1).f6), .int .i64 ((rd_T71 l0 x9_1).f7)] 71 (0, 0))) := ⟨(by rw [hw]; exact (by (with_reducible repeat (first | refine blk_drewN ?_ _ | refine blk_drew ?_ | refine blk_alloc ?_ _)); refine blk_put (cs := #[.int .u8 ((rd_T71 l0 x9_1).f0), .int .i64 ((rd_T71 l0 x9_1).f1), .int .i64 ((rd_T71 l0 x9_1).f2), .float .f64 ((rd_T71 l0 x9_1).f3), .slice A101_4 ((rd_T71 l0 x9_1).f4).length c101_4, .int .u8 ((rd_T71 l0 x9_1).f5), .int .i64 ((rd_T71 l0 x9_1).f6), .int .i64 ((rd_T71 l0 x9_1).f7)]) ?_ 4 _ rfl; (with_reducible repeat (first | refine blk_drewN ?_ _ | refine blk_drew ?_ | refine blk_alloc ?_ _)); exact BK102.out))⟩; have n3_ : Aside0 (Below w.heap.size w w12) := ⟨(by rw [hw]; exact (kB1 HB GE102))⟩; clear hw; clear HO_3; clear HO105; clear BK102; clear HB; have HO_3 := n0_; have HO105 := n1_; have BK102 := n2_; have HB := n3_; clear n0_ n1_ n2_ n3_; have hcz13 := blk8 (w := w12) BK102.out) | ((with_reducible refine gate_builtin (b := .append) (xs := #[.tmp 18, .tmp 20]) rfl ?_); at_builtin; refine Kd.S_append k71 (w0 := w) w.heap.size rfl (.tmp 18) (.tmp 20) 51 71 (.agg #[(.int .u8 0), (.int .i64 0), (.int .i64 0), (.float .f64 0), (.slice none 0 0), (.int .u8 0), (.int .i64 0), (.int .i64 0)]) 80 rfl Try.underlying51 info71 rfl (by decide) (by omega) u3 x3_1 (⟨(rd_T71 l0 x9_1).f0, (rd_T71 l0 x9_1).f1, (rd_T71 l0 x9_1).f2, (rd_T71 l0 x9_1).f3, y103, (rd_T71 l0 x9_1).f5, (rd_T71 l0 x9_1).f6, (rd_T71 l0 x9_1).f7⟩ : S71) [.int .u8 ((rd_T71 l0 x9_1).f0), .int .i64 ((rd_T71 l0 x9_1).f1), .int .i64 ((rd_T71 l0 x9_1).f2), .float .f64 ((rd_T71 l0 x9_1).f3), .slice Ao10 y103.length co10, .int .u8 ((rd_T71 l0 x9_1).f5), .int .i64 ((rd_T71 l0 x9_1).f6), .int .i64 ((rd_T71 l0 x9_1).f7)] (fun k_ => k_ ≠ gb102) (fun k_ => some k_ = (.slice Ao10 y103.length co10 : Value).ownBlock) rfl rfl ?aP (fun k_ hk_ => ((Kd.R_mono (ok' := fun k_ => ((fun k_ => k_ ≠ gb102)) k_ ∧ some k_ ≠ (u3 : Value).ownBlock) (Kd.R_types (Kd.R_apart' (HO105.out) (Kd.S_typed HO_3.out) (by decide)) BK102.out (by decide)) (fun k_ hk => ⟨hk.2, hk.1.2⟩))).1 k_ hk_.symm) ?aF ?aO ?aB ?aS ?aL ?_; (case aP => exact k71_mkM _ _ _ (⟨(rd_T71 l0 x9_1).f0, (rd_T71 l0 x9_1).f1, (rd_T71 l0 x9_1).f2, (rd_T71 l0 x9_1).f3, y103, (rd_T71 l0 x9_1).f5, (rd_T71 l0 x9_1).f6, (rd_T71 l0 x9_1).f7⟩ : S71) (Kd.R_mono (Kd.R_tight rfl (Kd.R_mono (ok' := fun k_ => ((fun k_ => k_ ≠ gb102)) k_ ∧ some k_ ≠ (u3 : Value).ownBlock) (Kd.R_types (Kd.R_apart' (HO105.out) (Kd.S_typed HO_3.out) (by decide)) BK102.out (by decide)) (fun k_ hk => ⟨hk.2, hk.1.2⟩))) (fun _ h_ => h_))); (case aB => exact (kB1 HB GE102)); (case aF => exact (fun k_ hk => Kd.freshB (g := gb102) (o := .cells #[.int .u8 ((rd_T71 l0 x9_1).f0), .int .i64 ((rd_T71 l0 x9_1).f1), .int .i64 ((rd_T71 l0 x9_1).f2), .float .f64 ((rd_T71 l0 x9_1).f3), .slice Ao10 y103.length co10, .int .u8 ((rd_T71 l0 x9_1).f5), .int .i64 ((rd_T71 l0 x9_1).f6), .int .i64 ((rd_T71 l0 x9_1).f7)] 71 (0, 0)) (kb BK102) k_ hk)); (case aO => exact (by (with_reducible repeat (first | apply Kd.S_alloc | apply Kd.S_drewN | apply Kd.S_drew)); exact Kd.S_mono HO_3.out (fun k_ hk => ⟨hk.2, fun e_ => hk.1 e_⟩))); (case aS => exact (below_size (kB1 HB GE102))); (case aL => have := LMc6.out; omega); intro v107 w14 ho hb hg hat; rw [← Ny106.out] at ho; have n0_ := aS_ (blk_grown (g := gb102) (o := .cells #[.int .u8 ((rd_T71 l0 x9_1).f0), .int .i64 ((rd_T71 l0 x9_1).f1), .int .i64 ((rd_T71 l0 x9_1).f2), .float .f64 ((rd_T71 l0 x9_1).f3), .slice Ao10 y103.length co10, .int .u8 ((rd_T71 l0 x9_1).f5), .int .i64 ((rd_T71 l0 x9_1).f6), .int .i64 ((rd_T71 l0 x9_1).f7)] 71 (0, 0)) (kb BK102) hg (Kd.S_away HO_3.out (fun _ hk => hk.2))); have n1_ := aS_ (hb); have n2_ := aS_ (ho); clear BK102; clear HB; clear HO_3; clear HO105; have BK102 := n0_; have HB := n1_; have HO108 := n2_; clear n0_ n1_ n2_; clear ho hb hg hat))
                go_roundg k1
                case measure => have := HK1.out; omega
                case rel => exact ⟨(y106), (wrap64 (x9_1 + 1)), kr, H', ⟨by have := HK1.out; omega⟩, ⟨by (with_reducible repeat (first | apply Kd.S_alloc | apply Kd.S_drewN | apply Kd.S_drew)); exact Kd.S_mono HO108.out (fun _ hk => trivial)⟩, ⟨kB1 HB GE102⟩⟩
              · rw [if_neg c6] at H
                exact absurd H (by simp)
            · rw [if_neg c5] at H
              exact absurd H (by simp)
          · rw [if_neg c4] at H
            exact absurd H (by simp)
        · rw [if_neg c3] at H
          exact absurd H (by simp)
      · rw [if_neg c2] at H
        have c2b0 := decide_eq_false c2
        clear c2
        obtain rfl := Option.some.inj H
        go_wp2
        go_ret
        exact ⟨_, by first | rfl | (simp [errW_none, errW_some] <;> rfl) | (simp [*, errW_none, errW_some] <;> rfl), by (with_reducible repeat (first | apply Kd.S_alloc | apply Kd.S_drewN | apply Kd.S_drew)); exact HO_3.out, kB0 HB⟩

/-! ### thicketref07_Copy: function 21 -/
def thicketref07_Copy.l0 : Nat → List (S53) → List (S53) → Int → Int → ByteArray → List ByteArray → Int → List Int → List (S53) → Option (ByteArray × List ByteArray × Int × List Int × (List (S53)))
  | 0, _, _, _, _, _, _, _, _, _ => none
  | k + 1, x5, x21, x22, x23, x112000, x112001, x112002, x112003, x112004 => if x23 < x22 then (if 0 ≤ x23 then (if x23 < (x21.length : Int) then ((thicketref07_Nodes.f k ((rd_T53 x21 x23).f1)).bind fun t120 => (if x5.length < 4398046511104 then (thicketref07_Copy.l0 k (x5 ++ [(⟨(rd_T53 x21 x23).f0, t120⟩ : S53)]) x21 x22 (wrap64 (x23 + 1)) x112000 x112001 x112002 x112003 x112004) else (none))) else (none)) else (none)) else (some (x112000, x112001, x112002, x112003, x5))
def thicketref07_Copy.f (k : Nat) (a0_0 : ByteArray) (l0_1 : List ByteArray) (a0_2 : Int) (l0_3 : List Int) (l0_4 : List (S53)) : Option (ByteArray × List ByteArray × Int × List Int × (List (S53))) := if ([] : List ByteArray).length + l0_1.length < 8796093022208 then (if ([] : List Int).length + l0_3.length < 17592186044416 then (thicketref07_Copy.l0 k ([] : List (S53)) l0_4 (l0_4.length : Int) 0 a0_0 (([] : List ByteArray) ++ l0_1) a0_2 (([] : List Int) ++ l0_3) l0_4) else (none)) else (none)
theorem thicketref07_Copy.mono_l : ∀ k, (∀ y0 y1 y2 y3 y4 y5 y6 y7 y8, LeO (thicketref07_Copy.l0 k y0 y1 y2 y3 y4 y5 y6 y7 y8) (thicketref07_Copy.l0 (k + 1) y0 y1 y2 y3 y4 y5 y6 y7 y8))
  | 0 => fun _ _ _ _ _ _ _ _ _ r h => by simp [thicketref07_Copy.l0] at h
  | k + 1 => by
    have ih0 := thicketref07_Copy.mono_l k
    · intro y0 y1 y2 y3 y4 y5 y6 y7 y8
      unfold thicketref07_Copy.l0
      repeat' first
      | (with_reducible exact ih0 _ _ _ _ _ _ _ _ _)
      | (with_reducible exact thicketref07_Nodes.mono _ _)
      | (with_reducible exact LeO.refl _)
      | (with_reducible exact LeO.none _)
      | (with_reducible refine LeO.ite ?_ ?_)
      | (with_reducible refine LeO.bind ?_ (fun _ => ?_))
theorem thicketref07_Copy.mono : ∀ a0 a1 a2 a3 a4 k, LeO (thicketref07_Copy.f k a0 a1 a2 a3 a4) (thicketref07_Copy.f (k + 1) a0 a1 a2 a3 a4) := by
  intro a0 a1 a2 a3 a4 k
  have ih0 := thicketref07_Copy.mono_l k
  unfold thicketref07_Copy.f
  repeat' first
      | (with_reducible exact ih0 _ _ _ _ _ _ _ _ _)
      | (with_reducible exact thicketref07_Nodes.mono _ _)
      | (with_reducible exact LeO.refl _)
      | (with_reducible exact LeO.none _)
      | (with_reducible refine LeO.ite ?_ ?_)
      | (with_reducible refine LeO.bind ?_ (fun _ => ?_))
def thicketref07_Copy.T10 : Bool × List (List Nat × List Nat) := (true, [([], []), ([], []), ([1], [1]), ([], []), ([3], [3]), ([4], [4]), ([2, 5], [2, 5]), ([6], [6]), ([0, 7, 5], [0, 7]), ([8, 8, 0, 1, 2, 3, 4, 5, 6, 7, 8], [0, 8])])
def thicketref07_Copy.B10 : List Nat := [0, 0, 2, 0, 8, 24, 62, 126, 255, 511]
theorem thicketref07_Copy.tab10 : rtab .any (opsOf Try.f21 10) = thicketref07_Copy.T10 := by kernel_rfl
theorem thicketref07_Copy.bits10 : waitsOk thicketref07_Copy.T10.2 thicketref07_Copy.B10 = true := by kernel_rfl
set_option maxHeartbeats 8000000 in
set_option maxRecDepth 100000 in
theorem thicketref07_Copy.calls (k : Nat) (a0_0 : ByteArray) (A0_1 : Option Addr) (c0_1 : Nat) (l0_1 : List ByteArray) (a0_2 : Int) (A0_3 : Option Addr) (c0_3 : Nat) (l0_3 : List Int) (A0_4 : Option Addr) (c0_4 : Nat) (l0_4 : List (S53)) (r1 : ByteArray) (r2 : List ByteArray) (r3 : Int) (r4 : List Int) (r5 : List (S53)) (w : World) (hr0_1 : Kd.C Kd.string w A0_1 l0_1.length l0_1) (hc0_1 : l0_1.length ≤ c0_1) (hr0_3 : Kd.C (Kd.int .i64) w A0_3 l0_3.length l0_3) (hc0_3 : l0_3.length ≤ c0_3) (hr0_4 : Kd.C k53 w A0_4 l0_4.length l0_4) (hc0_4 : l0_4.length ≤ c0_4) (h : thicketref07_Copy.f k a0_0 l0_1 a0_2 l0_3 l0_4 = some (r1, r2, r3, r4, r5)) :
    Calls Try.prog 21 #[.agg #[.string a0_0, .slice A0_1 l0_1.length c0_1, .int .i64 a0_2, .slice A0_3 l0_3.length c0_3, .slice A0_4 l0_4.length c0_4]] w fun e w' => ∃ v1_ v3_ v4_ : Value, e = .returned (.agg #[.string r1, v1_, .int .i64 r3, v3_, v4_]) ∧ Kd.R Kd.string 9 w' w.heap.size (fun _ => True) v1_ r2 ∧ Kd.R (Kd.int .i64) 2 w' w.heap.size (fun _ => True) v3_ r4 ∧ Kd.R k53 53 w' w.heap.size (fun _ => True) v4_ r5 ∧ Below w.heap.size w w' := by
  have hu63 := Try.underlying63
  have hu53 := Try.underlying53
  have HR0_1 := aS_ hr0_1
  have HC0_1 := aS_ hc0_1
  clear hr0_1 hc0_1
  have HR0_3 := aS_ hr0_3
  have HC0_3 := aS_ hc0_3
  clear hr0_3 hc0_3
  have HR0_4 := aS_ hr0_4
  have HC0_4 := aS_ hc0_4
  clear hr0_4 hc0_4
  have HB := aS_ (Below.refl w.heap.size w)
  have H : (if ([] : List ByteArray).length + l0_1.length < 8796093022208 then (if ([] : List Int).length + l0_3.length < 17592186044416 then (thicketref07_Copy.l0 k ([] : List (S53)) l0_4 (l0_4.length : Int) 0 a0_0 (([] : List ByteArray) ++ l0_1) a0_2 (([] : List Int) ++ l0_3) l0_4) else (none)) else (none)) = some (r1, r2, r3, r4, r5) := h
  clear h
  by_cases c2 : ([] : List ByteArray).length + l0_1.length < 8796093022208
  · rw [if_pos c2] at H
    have LMc2 := aS_ c2
    clear c2
    obtain ⟨y112, hy112⟩ : ∃ y_ : List ByteArray, y_ = (([] : List ByteArray) ++ l0_1) := ⟨_, rfl⟩
    replace H : (if ([] : List Int).length + l0_3.length < 17592186044416 then (thicketref07_Copy.l0 k ([] : List (S53)) l0_4 (l0_4.length : Int) 0 a0_0 y112 a0_2 (([] : List Int) ++ l0_3) l0_4) else (none)) = some (r1, r2, r3, r4, r5) := by first | (rw [hy112]; with_reducible exact H) | (have H2_ := (Option.bind_some _ _).symm.trans H; rw [hy112]; with_reducible exact H2_) | (have H2_ := (Option.bind_some _ _).symm.trans H; with_reducible exact H2_) | with_reducible exact H | (rw [hy112]; exact H) | exact H
    have Ny112 := aS_ hy112
    clear hy112
    by_cases c3 : ([] : List Int).length + l0_3.length < 17592186044416
    · rw [if_pos c3] at H
      have LMc3 := aS_ c3
      clear c3
      obtain ⟨y115, hy115⟩ : ∃ y_ : List Int, y_ = (([] : List Int) ++ l0_3) := ⟨_, rfl⟩
      replace H : (thicketref07_Copy.l0 k ([] : List (S53)) l0_4 (l0_4.length : Int) 0 a0_0 y112 a0_2 y115 l0_4) = some (r1, r2, r3, r4, r5) := by first | (rw [hy115]; with_reducible exact H) | (have H2_ := (Option.bind_some _ _).symm.trans H; rw [hy115]; with_reducible exact H2_) | (have H2_ := (Option.bind_some _ _).symm.trans H; with_reducible exact H2_) | with_reducible exact H | (rw [hy115]; exact H) | exact H
      have Ny115 := aS_ hy115
      clear hy115
      have H' := aS_ H
      clear H
      go_enter Try.func21, Try.ntmps21
      go_wp2_with (first | ((with_reducible refine gate_dst (N := 1) rfl ?_); refine box_event ?hg (N := 1) ?hd (cs := #[.string a0_0, .slice A0_1 l0_1.length c0_1, .int .i64 a0_2, .slice A0_3 l0_3.length c0_3, .slice A0_4 l0_4.length c0_4]) (t := 63) ?hr ?_; (case hd => rfl); (case hg => rfl); (case hr => first | (go_simp; done) | (go_simp; rfl)); intro gb109 hg w4 hbox hb; have n0_ := aS_ (below_step (kB0 HB) hb); have n1_ := aS_ (hbox); have n2_ := aS_ ((kg hg (kB0 HB) : w.heap.size ≤ gb109)); have n3_ := aS_ ((kg hg (kB0 HB) : w.heap.size ≤ gb109)); clear HB; have HB := n0_; have BK109 := n1_; have GW109 := n2_; have GE109 := n3_; clear n0_ n1_ n2_ n3_; clear hb hbox hg) | ((with_reducible refine gate_dst (N := 2) rfl ?_); refine box_event ?hg (N := 2) ?hd (cs := #[.string (⟨#[]⟩ : ByteArray), .slice none 0 0, .int .i64 0, .slice none 0 0, .slice none 0 0]) (t := 63) ?hr ?_; (case hd => rfl); (case hg => rfl); (case hr => first | (go_simp; done) | (go_simp; rfl)); intro gb110 hg w5 hbox hb; have n0_ := aS_ (blk_below (g := gb109) (o := .cells #[.string a0_0, .slice A0_1 l0_1.length c0_1, .int .i64 a0_2, .slice A0_3 l0_3.length c0_3, .slice A0_4 l0_4.length c0_4] 63 (0, 0)) (kb BK109) hb); have n1_ := aS_ (below_step (kB1 HB GE109) hb); have n2_ := aS_ (hbox); have n3_ := aS_ ((kg hg (kB1 HB GE109) : w.heap.size ≤ gb110)); have n4_ := aS_ ((kg hg (kB1 HB GE109) : w.heap.size ≤ gb110)); have n5_ := aS_ ((by rw [hg]; exact Nat.ne_of_lt (blk_lt (g := gb109) (o := .cells #[.string a0_0, .slice A0_1 l0_1.length c0_1, .int .i64 a0_2, .slice A0_3 l0_3.length c0_3, .slice A0_4 l0_4.length c0_4] 63 (0, 0)) (kb BK109)) : gb109 ≠ gb110)); have n6_ := aS_ ((by rw [hg]; exact Nat.ne_of_gt (blk_lt (g := gb109) (o := .cells #[.string a0_0, .slice A0_1 l0_1.length c0_1, .int .i64 a0_2, .slice A0_3 l0_3.length c0_3, .slice A0_4 l0_4.length c0_4] 63 (0, 0)) (kb BK109)) : gb110 ≠ gb109)); clear BK109; clear HB; have BK109 := n0_; have HB := n1_; have BK110 := n2_; have GW110 := n3_; have GE110 := n4_; have NB109_110 := n5_; have NB110_109 := n6_; clear n0_ n1_ n2_ n3_ n4_ n5_ n6_; clear hb hbox hg; have hnb6 := NB109_110.out; have hnc6 := NB110_109.out; have hcz7 := blk5 (w := w5) BK109.out) | ((with_reducible refine gate_dst (N := 6) rfl ?_); refine box_event ?hg (N := 6) ?hd (cs := #[.string (⟨#[]⟩ : ByteArray), .slice none 0 0, .int .i64 0, .slice none 0 0, .slice none 0 0]) (t := 63) ?hr ?_; (case hd => rfl); (case hg => rfl); (case hr => first | (go_simp; done) | (go_simp; rfl)); intro gb111 hg w8 hbox hb; have n0_ := aS_ (blk_below (g := gb109) (o := .cells #[.string a0_0, .slice A0_1 l0_1.length c0_1, .int .i64 a0_2, .slice A0_3 l0_3.length c0_3, .slice A0_4 l0_4.length c0_4] 63 (0, 0)) (kb BK109) hb); have n1_ := aS_ (blk_below (g := gb110) (o := .cells #[.string (⟨#[]⟩ : ByteArray), .slice none 0 0, .int .i64 0, .slice none 0 0, .slice none 0 0] 63 (0, 0)) (kb BK110) hb); have n2_ := aS_ (below_step (kB2 HB GE109 GE110) hb); have n3_ := aS_ (hbox); have n4_ := aS_ ((kg hg (kB2 HB GE109 GE110) : w.heap.size ≤ gb111)); have n5_ := aS_ ((kg hg (kB2 HB GE109 GE110) : w.heap.size ≤ gb111)); have n6_ := aS_ ((by rw [hg]; exact Nat.ne_of_lt (blk_lt (g := gb109) (o := .cells #[.string a0_0, .slice A0_1 l0_1.length c0_1, .int .i64 a0_2, .slice A0_3 l0_3.length c0_3, .slice A0_4 l0_4.length c0_4] 63 (0, 0)) (kb BK109)) : gb109 ≠ gb111)); have n7_ := aS_ ((by rw [hg]; exact Nat.ne_of_gt (blk_lt (g := gb109) (o := .cells #[.string a0_0, .slice A0_1 l0_1.length c0_1, .int .i64 a0_2, .slice A0_3 l0_3.length c0_3, .slice A0_4 l0_4.length c0_4] 63 (0, 0)) (kb BK109)) : gb111 ≠ gb109)); have n8_ := aS_ ((by rw [hg]; exact Nat.ne_of_lt (blk_lt (g := gb110) (o := .cells #[.string (⟨#[]⟩ : ByteArray), .slice none 0 0, .int .i64 0, .slice none 0 0, .slice none 0 0] 63 (0, 0)) (kb BK110)) : gb110 ≠ gb111)); have n9_ := aS_ ((by rw [hg]; exact Nat.ne_of_gt (blk_lt (g := gb110) (o := .cells #[.string (⟨#[]⟩ : ByteArray), .slice none 0 0, .int .i64 0, .slice none 0 0, .slice none 0 0] 63 (0, 0)) (kb BK110)) : gb111 ≠ gb110)); clear BK109; clear BK110; clear HB; have BK109 := n0_; have BK110 := n1_; have HB := n2_; have BK111 := n3_; have GW111 := n4_; have GE111 := n5_; have NB109_111 := n6_; have NB111_109 := n7_; have NB110_111 := n8_; have NB111_110 := n9_; clear n0_ n1_ n2_ n3_ n4_ n5_ n6_ n7_ n8_ n9_; clear hb hbox hg; have hnb9 := NB111_109.out; have hnc9 := NB109_111.out; have hnb10 := NB111_110.out; have hnc10 := NB110_111.out; have hcz11 := blk5 (w := w8) BK111.out; have hcz12 := blk5 (w := w8) BK109.out) | ((with_reducible refine gate_builtin (b := .append) (xs := #[.tmp 10, .tmp 12]) rfl ?_); at_builtin; refine Kd.R_append_rows Kd.string (w0 := w) w.heap.size rfl (.tmp 10) (.tmp 12) 60 9 (.string ⟨#[]⟩) 16 rfl Try.underlying60 info9 rfl (by decide) (by omega) (.slice none 0 0) ([] : List ByteArray) l0_1 _ _ _ (fun _ => True) (fun _ => False) rfl rfl ?aO ?aR (fun _ _ h => h) (fun _ h => h.elim) ?aF ?aB ?aS ?aL ?_; (case aR => exact Kd.C_below HR0_1.out (kB3 HB GE109 GE110 GE111)); (case aB => exact (kB3 HB GE109 GE110 GE111)); (case aF => exact (fun _ _ => trivial)); (case aO => exact ((Kd.R_nil _ _ _ _ (fun _ => True)))); (case aS => exact (below_size (kB3 HB GE109 GE110 GE111))); (case aL => have := LMc2.out; omega); intro v113 w13 ho hb hg hat; rw [← Ny112.out] at ho; have n0_ := aS_ (blk_grown (g := gb109) (o := .cells #[.string a0_0, .slice A0_1 l0_1.length c0_1, .int .i64 a0_2, .slice A0_3 l0_3.length c0_3, .slice A0_4 l0_4.length c0_4] 63 (0, 0)) (by (with_reducible repeat (first | refine blk_drewN ?_ _ | refine blk_drew ?_ | refine blk_alloc ?_ _)); refine blk_far ?_ NB109_111.out _; (with_reducible repeat (first | refine blk_drewN ?_ _ | refine blk_drew ?_ | refine blk_alloc ?_ _)); refine blk_far ?_ NB109_111.out _; (with_reducible repeat (first | refine blk_drewN ?_ _ | refine blk_drew ?_ | refine blk_alloc ?_ _)); refine blk_far ?_ NB109_111.out _; (with_reducible repeat (first | refine blk_drewN ?_ _ | refine blk_drew ?_ | refine blk_alloc ?_ _)); refine blk_far ?_ NB109_111.out _; (with_reducible repeat (first | refine blk_drewN ?_ _ | refine blk_drew ?_ | refine blk_alloc ?_ _)); refine blk_far ?_ NB109_111.out _; (with_reducible repeat (first | refine blk_drewN ?_ _ | refine blk_drew ?_ | refine blk_alloc ?_ _)); exact BK109.out) hg (by simp [Value.ownBlock])); have n1_ := aS_ (blk_grown (g := gb110) (o := .cells #[.string (⟨#[]⟩ : ByteArray), .slice none 0 0, .int .i64 0, .slice none 0 0, .slice none 0 0] 63 (0, 0)) (by (with_reducible repeat (first | refine blk_drewN ?_ _ | refine blk_drew ?_ | refine blk_alloc ?_ _)); refine blk_far ?_ NB110_111.out _; (with_reducible repeat (first | refine blk_drewN ?_ _ | refine blk_drew ?_ | refine blk_alloc ?_ _)); refine blk_far ?_ NB110_111.out _; (with_reducible repeat (first | refine blk_drewN ?_ _ | refine blk_drew ?_ | refine blk_alloc ?_ _)); refine blk_far ?_ NB110_111.out _; (with_reducible repeat (first | refine blk_drewN ?_ _ | refine blk_drew ?_ | refine blk_alloc ?_ _)); refine blk_far ?_ NB110_111.out _; (with_reducible repeat (first | refine blk_drewN ?_ _ | refine blk_drew ?_ | refine blk_alloc ?_ _)); refine blk_far ?_ NB110_111.out _; (with_reducible repeat (first | refine blk_drewN ?_ _ | refine blk_drew ?_ | refine blk_alloc ?_ _)); exact BK110.out) hg (by simp [Value.ownBlock])); have n2_ := aS_ (blk_grown (g := gb111) (o := .cells #[.string a0_0, .slice A0_1 l0_1.length c0_1, .int .i64 a0_2, .slice A0_3 l0_3.length c0_3, .slice A0_4 l0_4.length c0_4] 63 (0, 0)) (by (with_reducible repeat (first | refine blk_drewN ?_ _ | refine blk_drew ?_ | refine blk_alloc ?_ _)); refine blk_put (cs := #[.string a0_0, .slice A0_1 l0_1.length c0_1, .int .i64 a0_2, .slice A0_3 l0_3.length c0_3, .slice none 0 0]) ?_ 4 _ rfl; (with_reducible repeat (first | refine blk_drewN ?_ _ | refine blk_drew ?_ | refine blk_alloc ?_ _)); refine blk_put (cs := #[.string a0_0, .slice A0_1 l0_1.length c0_1, .int .i64 a0_2, .slice none 0 0, .slice none 0 0]) ?_ 3 _ rfl; (with_reducible repeat (first | refine blk_drewN ?_ _ | refine blk_drew ?_ | refine blk_alloc ?_ _)); refine blk_put (cs := #[.string a0_0, .slice A0_1 l0_1.length c0_1, .int .i64 0, .slice none 0 0, .slice none 0 0]) ?_ 2 _ rfl; (with_reducible repeat (first | refine blk_drewN ?_ _ | refine blk_drew ?_ | refine blk_alloc ?_ _)); refine blk_put (cs := #[.string a0_0, .slice none 0 0, .int .i64 0, .slice none 0 0, .slice none 0 0]) ?_ 1 _ rfl; (with_reducible repeat (first | refine blk_drewN ?_ _ | refine blk_drew ?_ | refine blk_alloc ?_ _)); refine blk_put (cs := #[.string (⟨#[]⟩ : ByteArray), .slice none 0 0, .int .i64 0, .slice none 0 0, .slice none 0 0]) ?_ 0 _ rfl; (with_reducible repeat (first | refine blk_drewN ?_ _ | refine blk_drew ?_ | refine blk_alloc ?_ _)); exact BK111.out) hg (by simp [Value.ownBlock])); have n3_ := aS_ (hb); have n4_ := aS_ (ho); clear BK109; clear BK110; clear BK111; clear HB; have BK109 := n0_; have BK110 := n1_; have BK111 := n2_; have HB := n3_; have HO114 := n4_; clear n0_ n1_ n2_ n3_ n4_; clear ho hb hg hat; obtain ⟨Ao14, co14, eo14⟩ := Kd.R_slice HO114.out; subst eo14; have hcz15 := blk5 (w := w13) BK111.out; have hcz16 := blk5 (w := w13) BK109.out) | ((with_reducible refine gate_builtin (b := .append) (xs := #[.tmp 15, .tmp 17]) rfl ?_); at_builtin; refine Kd.R_append_rows (Kd.int .i64) (w0 := w) w.heap.size rfl (.tmp 15) (.tmp 17) 61 2 (.int .i64 0) 8 rfl Try.underlying61 info2 rfl (by decide) (by omega) (.slice none 0 0) ([] : List Int) l0_3 _ _ _ (fun _ => True) (fun _ => False) rfl rfl ?aO ?aR (fun _ _ h => h) (fun _ h => h.elim) ?aF ?aB ?aS ?aL ?_; (case aR => exact Kd.C_below HR0_3.out (kB3 HB GE109 GE110 GE111)); (case aB => exact (kB3 HB GE109 GE110 GE111)); (case aF => exact (fun _ _ => trivial)); (case aO => exact ((Kd.R_nil _ _ _ _ (fun _ => True)))); (case aS => exact (below_size (kB3 HB GE109 GE110 GE111))); (case aL => have := LMc3.out; omega); intro v116 w17 ho hb hg hat; rw [← Ny115.out] at ho; have n0_ := aS_ (blk_grown (g := gb109) (o := .cells #[.string a0_0, .slice A0_1 l0_1.length c0_1, .int .i64 a0_2, .slice A0_3 l0_3.length c0_3, .slice A0_4 l0_4.length c0_4] 63 (0, 0)) (by (with_reducible repeat (first | refine blk_drewN ?_ _ | refine blk_drew ?_ | refine blk_alloc ?_ _)); refine blk_far ?_ NB109_111.out _; (with_reducible repeat (first | refine blk_drewN ?_ _ | refine blk_drew ?_ | refine blk_alloc ?_ _)); exact BK109.out) hg (by simp [Value.ownBlock])); have n1_ := aS_ (blk_grown (g := gb110) (o := .cells #[.string (⟨#[]⟩ : ByteArray), .slice none 0 0, .int .i64 0, .slice none 0 0, .slice none 0 0] 63 (0, 0)) (by (with_reducible repeat (first | refine blk_drewN ?_ _ | refine blk_drew ?_ | refine blk_alloc ?_ _)); refine blk_far ?_ NB110_111.out _; (with_reducible repeat (first | refine blk_drewN ?_ _ | refine blk_drew ?_ | refine blk_alloc ?_ _)); exact BK110.out) hg (by simp [Value.ownBlock])); have n2_ := aS_ (blk_grown (g := gb111) (o := .cells #[.string a0_0, .slice Ao14 y112.length co14, .int .i64 a0_2, .slice A0_3 l0_3.length c0_3, .slice A0_4 l0_4.length c0_4] 63 (0, 0)) (by (with_reducible repeat (first | refine blk_drewN ?_ _ | refine blk_drew ?_ | refine blk_alloc ?_ _)); refine blk_put (cs := #[.string a0_0, .slice A0_1 l0_1.length c0_1, .int .i64 a0_2, .slice A0_3 l0_3.length c0_3, .slice A0_4 l0_4.length c0_4]) ?_ 1 _ rfl; (with_reducible repeat (first | refine blk_drewN ?_ _ | refine blk_drew ?_ | refine blk_alloc ?_ _)); exact BK111.out) hg (by simp [Value.ownBlock])); have n3_ := aS_ (Kd.R_grown (by (with_reducible repeat (first | apply Kd.R_alloc | apply Kd.R_drewN | apply Kd.R_drew)); exact (Kd.R_mono (Kd.R_far (p := ⟨gb111, 1, none⟩) (Kd.R_types HO114.out BK111.out (by decide)) (fun _ hk => hk.2) (.slice Ao14 y112.length co14)) (fun _ h_ => h_.1))) hg (fun _ _ => by simp [Value.ownBlock])); have n4_ := aS_ (hb); have n5_ := aS_ (ho); clear BK109; clear BK110; clear BK111; clear HO114; clear HB; have BK109 := n0_; have BK110 := n1_; have BK111 := n2_; have HO114 := n3_; have HB := n4_; have HO117 := n5_; clear n0_ n1_ n2_ n3_ n4_ n5_; clear ho hb hg hat; obtain ⟨Ao18, co18, eo18⟩ := Kd.R_slice HO117.out; subst eo18; have hcz19 := blk5 (w := w17) BK111.out; have hcz20 := blk5 (w := w17) BK109.out))
      go_loopg [5, 23] k (fun kq v5 v23 w' => ∃ (x5_1 : List (S53)) (x23_1 : Int), v23 = .int .i64 x23_1 ∧ Aside0 (thicketref07_Copy.l0 kq x5_1 l0_4 (l0_4.length : Int) x23_1 a0_0 y112 a0_2 y115 l0_4 = some (r1, r2, r3, r4, r5)) ∧ Aside0 (kq ≤ k) ∧ Aside0 (Kd.R k53 53 w' w.heap.size (fun _ => True) v5 x5_1) ∧ Aside0 (Kd.R Kd.string 9 w' w.heap.size (fun _ => True) (.slice Ao14 y112.length co14) y112) ∧ Aside0 (Kd.R (Kd.int .i64) 2 w' w.heap.size (fun _ => True) (.slice Ao18 y115.length co18) y115) ∧ Aside0 (w'.heap[gb109]? = some (.cells #[.string a0_0, (.slice A0_1 l0_1.length c0_1), .int .i64 a0_2, (.slice A0_3 l0_3.length c0_3), (.slice A0_4 l0_4.length c0_4)] 63 (0, 0))) ∧ Aside0 (w'.heap[gb110]? = some (.cells #[.string (⟨#[]⟩ : ByteArray), (.slice none 0 0), .int .i64 0, (.slice none 0 0), (.slice none 0 0)] 63 (0, 0))) ∧ Aside0 (w'.heap[gb111]? = some (.cells #[.string a0_0, (.slice Ao14 y112.length co14), .int .i64 a0_2, (.slice Ao18 y115.length co18), (.slice A0_4 l0_4.length c0_4)] 63 (0, 0))) ∧ Aside0 (Below w.heap.size w w'))
      case atStart => exact ⟨(([] : List (S53))), (0), kr, H', ⟨Nat.le_refl _⟩, ⟨by first | exact Kd.R_nil _ _ _ _ _ | exact Kd.N_nil _ _ _ _ _ | exact Kd.V_nil _ _ _ _ _ | exact Kd.Q_nil _ _ _ _ _ | exact Kd.S_nil _ _ _ _ _⟩, ⟨by (with_reducible repeat (first | apply Kd.R_alloc | apply Kd.R_drewN | apply Kd.R_drew)); exact Kd.R_mono (Kd.R_far (p := ⟨gb111, 3, none⟩) (Kd.R_types HO114.out BK111.out (by decide)) (fun _ hk => hk.2) (.slice Ao18 y115.length co18)) (fun _ hk => trivial)⟩, ⟨by (with_reducible repeat (first | apply Kd.R_alloc | apply Kd.R_drewN | apply Kd.R_drew)); exact Kd.R_mono (Kd.R_far (p := ⟨gb111, 3, none⟩) (Kd.R_types HO117.out BK111.out (by decide)) (fun _ hk => hk.2) (.slice Ao18 y115.length co18)) (fun _ hk => trivial)⟩, ⟨by (with_reducible repeat (first | refine blk_drewN ?_ _ | refine blk_drew ?_ | refine blk_alloc ?_ _)); refine blk_far ?_ NB109_111.out _; (with_reducible repeat (first | refine blk_drewN ?_ _ | refine blk_drew ?_ | refine blk_alloc ?_ _)); exact BK109.out⟩, ⟨by (with_reducible repeat (first | refine blk_drewN ?_ _ | refine blk_drew ?_ | refine blk_alloc ?_ _)); refine blk_far ?_ NB110_111.out _; (with_reducible repeat (first | refine blk_drewN ?_ _ | refine blk_drew ?_ | refine blk_alloc ?_ _)); exact BK110.out⟩, ⟨by (with_reducible repeat (first | refine blk_drewN ?_ _ | refine blk_drew ?_ | refine blk_alloc ?_ _)); refine blk_put (cs := #[.string a0_0, .slice Ao14 y112.length co14, .int .i64 a0_2, .slice A0_3 l0_3.length c0_3, .slice A0_4 l0_4.length c0_4]) ?_ 3 _ rfl; (with_reducible repeat (first | refine blk_drewN ?_ _ | refine blk_drew ?_ | refine blk_alloc ?_ _)); exact BK111.out⟩, ⟨kB3 HB GE109 GE110 GE111⟩⟩
      case round =>
        clear H'
        try clear c1; try clear c2; try clear p2; try clear c3; try clear c6; try clear c9; try clear c10; try clear hcz11; try clear hcz12; try clear hcz15; try clear hcz16; try clear hcz19; try clear hcz20; try clear hcz7
        obtain ⟨x5_1, x23_1, rfl, HA, HK1, HO_5, HO_112001, HO_112003, BK109, BK110, BK111, HB⟩ := hrel
        cases gk with
        | zero => exact absurd HA.out (by simp [thicketref07_Copy.l0])
        | succ k1 =>
          have H := HA.out
          clear HA
          simp only [thicketref07_Copy.l0] at H
          by_cases c21 : x23_1 < (l0_4.length : Int)
          · rw [if_pos c21] at H
            have c21b0 := decide_eq_true c21
            clear c21
            by_cases c22 : 0 ≤ x23_1
            · rw [if_pos c22] at H
              have c22b0 := decide_eq_true c22
              clear c22
              by_cases c23 : x23_1 < (l0_4.length : Int)
              · rw [if_pos c23] at H
                have c23b0 := decide_eq_true c23
                clear c23
                replace H := Option.bind_eq_some_iff.mp H
                obtain ⟨t120, A240, H⟩ := H
                replace H : (if x5_1.length < 4398046511104 then (thicketref07_Copy.l0 k1 (x5_1 ++ [(⟨(rd_T53 l0_4 x23_1).f0, t120⟩ : S53)]) l0_4 (l0_4.length : Int) (wrap64 (x23_1 + 1)) a0_0 y112 a0_2 y115 l0_4) else (none)) = some (r1, r2, r3, r4, r5) := H
                have A24 := aS_ A240
                clear A240
                by_cases c25 : x5_1.length < 4398046511104
                · rw [if_pos c25] at H
                  have LMc25 := aS_ c25
                  clear c25
                  obtain ⟨y123, hy123⟩ : ∃ y_ : List (S53), y_ = (x5_1 ++ [(⟨(rd_T53 l0_4 x23_1).f0, t120⟩ : S53)]) := ⟨_, rfl⟩
                  (try replace H := bS_ H); rw [← hy123] at H; try dsimp only at H
                  have Ny123 := aS_ hy123
                  clear hy123
                  have H' := aS_ H
                  clear H
                  have p118 : 0 ≤ (x23_1 : Int) := of_decide_eq_true ka
                  have q118 : x23_1 < (l0_4.length : Int) := of_decide_eq_true ka
                  obtain ⟨ad118, A118_1, c118_1, e118, hx118_0, hx118_1, hl118_1, hi118_1⟩ := at_T53 HR0_4.out x23_1 p118 q118
                  cases e118
                  replace hx118_0 := cB_ HB.out hx118_0
                  replace hx118_1 := cB_ HB.out hx118_1
                  have HR118_1 := aS_ hi118_1
                  have HC118_1 := aS_ hl118_1
                  clear hi118_1 hl118_1
                  replace p118 := eq_true p118
                  replace q118 := eq_true q118
                  try go_wp2_with (first | ((with_reducible refine gate_dst (N := 8) rfl ?_); refine box_event ?hg (N := 8) ?hd (cs := #[.int .i64 0, .slice none 0 0]) (t := 53) ?hr ?_; (case hd => rfl); (case hg => rfl); (case hr => first | (go_simp; done) | (go_simp; rfl)); intro gb119 hg w26 hbox hb; have n0_ := aS_ (Kd.R_below (Kd.R_elderB (kR HO_5) gb119 (Nat.le_of_eq hg.symm)) hb); have n1_ := aS_ (Kd.R_below (kR HO_112001) hb); have n2_ := aS_ (Kd.R_below (kR HO_112003) hb); have n3_ := aS_ (blk_below (g := gb109) (o := .cells #[.string a0_0, .slice A0_1 l0_1.length c0_1, .int .i64 a0_2, .slice A0_3 l0_3.length c0_3, .slice (some ad118) l0_4.length c0_4] 63 (0, 0)) (kb BK109) hb); have n4_ := aS_ (blk_below (g := gb110) (o := .cells #[.string (⟨#[]⟩ : ByteArray), .slice none 0 0, .int .i64 0, .slice none 0 0, .slice none 0 0] 63 (0, 0)) (kb BK110) hb); have n5_ := aS_ (blk_below (g := gb111) (o := .cells #[.string a0_0, .slice Ao14 y112.length co14, .int .i64 a0_2, .slice Ao18 y115.length co18, .slice (some ad118) l0_4.length c0_4] 63 (0, 0)) (kb BK111) hb); have n6_ := aS_ (below_step (kB3 HB GE109 GE110 GE111) hb); have n7_ := aS_ (hbox); have n8_ := aS_ ((kg hg (kB3 HB GE109 GE110 GE111) : w.heap.size ≤ gb119)); have n9_ := aS_ ((kg hg (kB3 HB GE109 GE110 GE111) : w.heap.size ≤ gb119)); have n10_ := aS_ ((by rw [hg]; exact Nat.ne_of_lt (blk_lt (g := gb109) (o := .cells #[.string a0_0, .slice A0_1 l0_1.length c0_1, .int .i64 a0_2, .slice A0_3 l0_3.length c0_3, .slice (some ad118) l0_4.length c0_4] 63 (0, 0)) (kb BK109)) : gb109 ≠ gb119)); have n11_ := aS_ ((by rw [hg]; exact Nat.ne_of_gt (blk_lt (g := gb109) (o := .cells #[.string a0_0, .slice A0_1 l0_1.length c0_1, .int .i64 a0_2, .slice A0_3 l0_3.length c0_3, .slice (some ad118) l0_4.length c0_4] 63 (0, 0)) (kb BK109)) : gb119 ≠ gb109)); have n12_ := aS_ ((by rw [hg]; exact Nat.ne_of_lt (blk_lt (g := gb110) (o := .cells #[.string (⟨#[]⟩ : ByteArray), .slice none 0 0, .int .i64 0, .slice none 0 0, .slice none 0 0] 63 (0, 0)) (kb BK110)) : gb110 ≠ gb119)); have n13_ := aS_ ((by rw [hg]; exact Nat.ne_of_gt (blk_lt (g := gb110) (o := .cells #[.string (⟨#[]⟩ : ByteArray), .slice none 0 0, .int .i64 0, .slice none 0 0, .slice none 0 0] 63 (0, 0)) (kb BK110)) : gb119 ≠ gb110)); have n14_ := aS_ ((by rw [hg]; exact Nat.ne_of_lt (blk_lt (g := gb111) (o := .cells #[.string a0_0, .slice Ao14 y112.length co14, .int .i64 a0_2, .slice Ao18 y115.length co18, .slice (some ad118) l0_4.length c0_4] 63 (0, 0)) (kb BK111)) : gb111 ≠ gb119)); have n15_ := aS_ ((by rw [hg]; exact Nat.ne_of_gt (blk_lt (g := gb111) (o := .cells #[.string a0_0, .slice Ao14 y112.length co14, .int .i64 a0_2, .slice Ao18 y115.length co18, .slice (some ad118) l0_4.length c0_4] 63 (0, 0)) (kb BK111)) : gb119 ≠ gb111)); clear HO_5; clear HO_112001; clear HO_112003; clear BK109; clear BK110; clear BK111; clear HB; have HO_5 := n0_; have HO_112001 := n1_; have HO_112003 := n2_; have BK109 := n3_; have BK110 := n4_; have BK111 := n5_; have HB := n6_; have BK119 := n7_; have GW119 := n8_; have GE119 := n9_; have NB109_119 := n10_; have NB119_109 := n11_; have NB110_119 := n12_; have NB119_110 := n13_; have NB111_119 := n14_; have NB119_111 := n15_; clear n0_ n1_ n2_ n3_ n4_ n5_ n6_ n7_ n8_ n9_ n10_ n11_ n12_ n13_ n14_ n15_; clear hb hbox hg; have hnb27 := NB119_109.out; have hnc27 := NB109_119.out; have hnb28 := NB119_110.out; have hnc28 := NB110_119.out; have hnb29 := NB119_111.out; have hnc29 := NB111_119.out; have hcz30 := blk2 (w := w26) BK119.out))
                  have n0_ : Aside0 (Kd.R k53 53 ((w26.setCell ⟨gb119, 0, none⟩ (.int .i64 ((rd_T53 l0_4 x23_1).f0))).setCell ⟨gb119, 1, none⟩ (.slice A118_1 ((rd_T53 l0_4 x23_1).f1).length c118_1)) w.heap.size (fun k_ => k_ ≠ gb119) u5 x5_1) := ⟨by (with_reducible repeat (first | apply Kd.R_alloc | apply Kd.R_drewN | apply Kd.R_drew)); exact Kd.R_mono (Kd.R_far (p := ⟨gb119, 1, none⟩) (Kd.R_far (p := ⟨gb119, 0, none⟩) (Kd.R_mono HO_5.out (fun k_ hk => (⟨hk, hk.2⟩ : _ ∧ k_ ≠ gb119))) (fun _ hk => hk.2) (.int .i64 ((rd_T53 l0_4 x23_1).f0))) (fun _ hk => hk.2) (.slice A118_1 ((rd_T53 l0_4 x23_1).f1).length c118_1)) (fun _ hk => hk.1.2)⟩
                  have n1_ : Aside0 (Kd.R Kd.string 9 ((w26.setCell ⟨gb119, 0, none⟩ (.int .i64 ((rd_T53 l0_4 x23_1).f0))).setCell ⟨gb119, 1, none⟩ (.slice A118_1 ((rd_T53 l0_4 x23_1).f1).length c118_1)) w.heap.size (fun _ => True) (.slice Ao14 y112.length co14) y112) := ⟨by (with_reducible repeat (first | apply Kd.R_alloc | apply Kd.R_drewN | apply Kd.R_drew)); exact Kd.R_mono (Kd.R_far (p := ⟨gb119, 1, none⟩) (Kd.R_far (p := ⟨gb119, 0, none⟩) (Kd.R_types HO_112001.out BK119.out (by decide)) (fun _ hk => hk.2) (.int .i64 ((rd_T53 l0_4 x23_1).f0))) (fun _ hk => hk.2) (.slice A118_1 ((rd_T53 l0_4 x23_1).f1).length c118_1)) (fun _ hk => trivial)⟩
                  have n2_ : Aside0 (Kd.R (Kd.int .i64) 2 ((w26.setCell ⟨gb119, 0, none⟩ (.int .i64 ((rd_T53 l0_4 x23_1).f0))).setCell ⟨gb119, 1, none⟩ (.slice A118_1 ((rd_T53 l0_4 x23_1).f1).length c118_1)) w.heap.size (fun _ => True) (.slice Ao18 y115.length co18) y115) := ⟨by (with_reducible repeat (first | apply Kd.R_alloc | apply Kd.R_drewN | apply Kd.R_drew)); exact Kd.R_mono (Kd.R_far (p := ⟨gb119, 1, none⟩) (Kd.R_far (p := ⟨gb119, 0, none⟩) (Kd.R_types HO_112003.out BK119.out (by decide)) (fun _ hk => hk.2) (.int .i64 ((rd_T53 l0_4 x23_1).f0))) (fun _ hk => hk.2) (.slice A118_1 ((rd_T53 l0_4 x23_1).f1).length c118_1)) (fun _ hk => trivial)⟩
                  have n3_ : Aside0 (((w26.setCell ⟨gb119, 0, none⟩ (.int .i64 ((rd_T53 l0_4 x23_1).f0))).setCell ⟨gb119, 1, none⟩ (.slice A118_1 ((rd_T53 l0_4 x23_1).f1).length c118_1)).heap[gb109]? = some (.cells #[.string a0_0, .slice A0_1 l0_1.length c0_1, .int .i64 a0_2, .slice A0_3 l0_3.length c0_3, .slice (some ad118) l0_4.length c0_4] 63 (0, 0))) := ⟨by (with_reducible repeat (first | refine blk_drewN ?_ _ | refine blk_drew ?_ | refine blk_alloc ?_ _)); refine blk_far ?_ NB109_119.out _; (with_reducible repeat (first | refine blk_drewN ?_ _ | refine blk_drew ?_ | refine blk_alloc ?_ _)); refine blk_far ?_ NB109_119.out _; (with_reducible repeat (first | refine blk_drewN ?_ _ | refine blk_drew ?_ | refine blk_alloc ?_ _)); exact BK109.out⟩
                  have n4_ : Aside0 (((w26.setCell ⟨gb119, 0, none⟩ (.int .i64 ((rd_T53 l0_4 x23_1).f0))).setCell ⟨gb119, 1, none⟩ (.slice A118_1 ((rd_T53 l0_4 x23_1).f1).length c118_1)).heap[gb110]? = some (.cells #[.string (⟨#[]⟩ : ByteArray), .slice none 0 0, .int .i64 0, .slice none 0 0, .slice none 0 0] 63 (0, 0))) := ⟨by (with_reducible repeat (first | refine blk_drewN ?_ _ | refine blk_drew ?_ | refine blk_alloc ?_ _)); refine blk_far ?_ NB110_119.out _; (with_reducible repeat (first | refine blk_drewN ?_ _ | refine blk_drew ?_ | refine blk_alloc ?_ _)); refine blk_far ?_ NB110_119.out _; (with_reducible repeat (first | refine blk_drewN ?_ _ | refine blk_drew ?_ | refine blk_alloc ?_ _)); exact BK110.out⟩
                  have n5_ : Aside0 (((w26.setCell ⟨gb119, 0, none⟩ (.int .i64 ((rd_T53 l0_4 x23_1).f0))).setCell ⟨gb119, 1, none⟩ (.slice A118_1 ((rd_T53 l0_4 x23_1).f1).length c118_1)).heap[gb111]? = some (.cells #[.string a0_0, .slice Ao14 y112.length co14, .int .i64 a0_2, .slice Ao18 y115.length co18, .slice (some ad118) l0_4.length c0_4] 63 (0, 0))) := ⟨by (with_reducible repeat (first | refine blk_drewN ?_ _ | refine blk_drew ?_ | refine blk_alloc ?_ _)); refine blk_far ?_ NB111_119.out _; (with_reducible repeat (first | refine blk_drewN ?_ _ | refine blk_drew ?_ | refine blk_alloc ?_ _)); refine blk_far ?_ NB111_119.out _; (with_reducible repeat (first | refine blk_drewN ?_ _ | refine blk_drew ?_ | refine blk_alloc ?_ _)); exact BK111.out⟩
                  have n6_ : Aside0 (((w26.setCell ⟨gb119, 0, none⟩ (.int .i64 ((rd_T53 l0_4 x23_1).f0))).setCell ⟨gb119, 1, none⟩ (.slice A118_1 ((rd_T53 l0_4 x23_1).f1).length c118_1)).heap[gb119]? = some (.cells #[.int .i64 ((rd_T53 l0_4 x23_1).f0), .slice A118_1 ((rd_T53 l0_4 x23_1).f1).length c118_1] 53 (0, 0))) := ⟨by (with_reducible repeat (first | refine blk_drewN ?_ _ | refine blk_drew ?_ | refine blk_alloc ?_ _)); refine blk_put (cs := #[.int .i64 ((rd_T53 l0_4 x23_1).f0), .slice none 0 0]) ?_ 1 _ rfl; (with_reducible repeat (first | refine blk_drewN ?_ _ | refine blk_drew ?_ | refine blk_alloc ?_ _)); refine blk_put (cs := #[.int .i64 0, .slice none 0 0]) ?_ 0 _ rfl; (with_reducible repeat (first | refine blk_drewN ?_ _ | refine blk_drew ?_ | refine blk_alloc ?_ _)); exact BK119.out⟩
                  have n7_ : Aside0 (Below w.heap.size w ((w26.setCell ⟨gb119, 0, none⟩ (.int .i64 ((rd_T53 l0_4 x23_1).f0))).setCell ⟨gb119, 1, none⟩ (.slice A118_1 ((rd_T53 l0_4 x23_1).f1).length c118_1))) := ⟨kB4 HB GE109 GE110 GE111 GE119⟩
                  (try clear HO_5)
                  (try clear HO_112001)
                  (try clear HO_112003)
                  (try clear BK109)
                  (try clear BK110)
                  (try clear BK111)
                  (try clear BK119)
                  (try clear HB)
                  generalize ((w26.setCell ⟨gb119, 0, none⟩ (.int .i64 ((rd_T53 l0_4 x23_1).f0))).setCell ⟨gb119, 1, none⟩ (.slice A118_1 ((rd_T53 l0_4 x23_1).f1).length c118_1)) = w31 at n0_ n1_ n2_ n3_ n4_ n5_ n6_ n7_ ⊢
                  have HO_5 := n0_
                  have HO_112001 := n1_
                  have HO_112003 := n2_
                  have BK109 := n3_
                  have BK110 := n4_
                  have BK111 := n5_
                  have BK119 := n6_
                  have HB := n7_
                  clear n0_ n1_ n2_ n3_ n4_ n5_ n6_ n7_
                  have n0_ := aS_ (Kd.R_drew HO_5.out)
                  have n1_ := aS_ (Kd.R_drew HO_112001.out)
                  have n2_ := aS_ (Kd.R_drew HO_112003.out)
                  have n3_ := aS_ (blk_drew BK109.out)
                  have n4_ := aS_ (blk_drew BK110.out)
                  have n5_ := aS_ (blk_drew BK111.out)
                  have n6_ := aS_ (blk_drew BK119.out)
                  have n7_ := aS_ (below_drew1 HB.out)
                  clear HO_5
                  clear HO_112001
                  clear HO_112003
                  clear BK109
                  clear BK110
                  clear BK111
                  clear BK119
                  clear HB
                  have HO_5 := n0_
                  have HO_112001 := n1_
                  have HO_112003 := n2_
                  have BK109 := n3_
                  have BK110 := n4_
                  have BK111 := n5_
                  have BK119 := n6_
                  have HB := n7_
                  clear n0_ n1_ n2_ n3_ n4_ n5_ n6_ n7_
                  refine start_ (n := 10) (S := fun w' => w'.cell? ⟨gb119, 0, none⟩ = some (.int .i64 ((rd_T53 l0_4 x23_1).f0)) ∧ w'.cell? ⟨gb119, 1, none⟩ = some (.slice A118_1 ((rd_T53 l0_4 x23_1).f1).length c118_1)) (ds := []) #[false, false, false, false, false, false, false, false, false, false] (by kernel_rfl) rfl rfl ⟨(blk_cell BK119.out 0).trans rfl, (blk_cell BK119.out 1).trans rfl⟩ (fun hHeld => ?_); refine with_tabW thicketref07_Copy.tab10 thicketref07_Copy.bits10 (fun HT_ HW_ => ?_)
                  generalize w31.drew = w32 at HO_5 HO_112001 HO_112003 BK109 BK110 BK111 BK119 HB hHeld ⊢
                  refine pq_ (v := ?_) (b := ?_) (m := ?_) 0 (some 27) ?_
                  refine pq_ (v := ?_) (b := ?_) (m := ?_) 1 (some 28) ?_
                  refine pq_ (v := ?_) (b := ?_) (m := ?_) 3 (some 30) ?_
                  refine tq_ (v := ?_) (b := ?_) (m := ?_) 2 (some 29) hHeld ?_
                  refine tq_ (v := ?_) (b := ?_) (m := ?_) 4 (some 31) hHeld ?_
                  refine oq_ (m := ?_) 5 (some 32) fun K hK => ?_
                  refine goes_ Try.func40 (by kernel_rfl) rfl #[.slice A118_1 ((rd_T53 l0_4 x23_1).f1).length c118_1] (by rfl) rfl rfl (by (try simp only [List.map_toArray, List.map_cons, List.map_nil]); first | done | rfl | (simp only [List.length_drop, List.length_take]; rfl)) ?_
                  with_reducible refine (thicketref07_Nodes.calls k1 _ _ ((rd_T53 l0_4 x23_1).f1) t120 _ ?side1 ?side2 A24.out).mono ?_
                  (case side1 => repeat (first | exact (Kd.C_below HR118_1.out HB.out) | (with_reducible refine Kd.C_alloc ?_ _) | (with_reducible refine Kd.C_drewN ?_ _) | (with_reducible refine Kd.C_drew ?_)))
                  (case side2 => exact HC118_1.out)
                  rintro e w33 ⟨v121, rfl, ho0, hb⟩
                  refine ⟨_, rfl, ?_⟩
                  have n0_ := aS_ (Kd.R_elder' (kR HO_5) (Kd.S_base ho0) hb)
                  have n1_ := aS_ (Kd.R_below (kR HO_112001) hb)
                  have n2_ := aS_ (Kd.R_below (kR HO_112003) hb)
                  have n3_ := aS_ (Kd.S_lower ho0 (below_size (kB4 HB GE109 GE110 GE111 GE119)))
                  have n4_ := aS_ (blk_below (g := gb109) (o := .cells #[.string a0_0, .slice A0_1 l0_1.length c0_1, .int .i64 a0_2, .slice A0_3 l0_3.length c0_3, .slice (some ad118) l0_4.length c0_4] 63 (0, 0)) (kb BK109) hb)
                  have n5_ := aS_ (blk_below (g := gb110) (o := .cells #[.string (⟨#[]⟩ : ByteArray), .slice none 0 0, .int .i64 0, .slice none 0 0, .slice none 0 0] 63 (0, 0)) (kb BK110) hb)
                  have n6_ := aS_ (blk_below (g := gb111) (o := .cells #[.string a0_0, .slice Ao14 y112.length co14, .int .i64 a0_2, .slice Ao18 y115.length co18, .slice (some ad118) l0_4.length c0_4] 63 (0, 0)) (kb BK111) hb)
                  have n7_ := aS_ (blk_below (g := gb119) (o := .cells #[.int .i64 ((rd_T53 l0_4 x23_1).f0), .slice A118_1 ((rd_T53 l0_4 x23_1).f1).length c118_1] 53 (0, 0)) (kb BK119) hb)
                  have n8_ := aS_ (below_step (kB4 HB GE109 GE110 GE111 GE119) hb)
                  clear HO_5
                  clear HO_112001
                  clear HO_112003
                  clear BK109
                  clear BK110
                  clear BK111
                  clear BK119
                  clear HB
                  have HO_5 := n0_
                  have HO_112001 := n1_
                  have HO_112003 := n2_
                  have HO122 := n3_
                  have BK109 := n4_
                  have BK110 := n5_
                  have BK111 := n6_
                  have BK119 := n7_
                  have HB := n8_
                  clear n0_ n1_ n2_ n3_ n4_ n5_ n6_ n7_ n8_
                  (try clear hb)
                  (try clear hb2)
                  (try clear hk)
                  (try clear hi)
                  (try clear ho0)
                  obtain ⟨Ao34, co34, eo34⟩ := Kd.S_slice HO122.out
                  (first | subst eo34 | (injection eo34 with f1_ f2_ f3_; have f4_ := f1_.symm; have f5_ := f3_.symm; clear f1_ f2_ f3_; subst f4_; subst f5_))
                  refine hK.out _ _ ⟨(blk_cell BK119.out 0).trans rfl, (blk_cell BK119.out 1).trans rfl⟩ (fun hHeld => ?_)
                  clear hK K
                  refine nq_ (b := ?_) (some 32) ?_
                  refine pq_ (v := ?_) (b := ?_) (m := ?_) 6 (some 33) ?_
                  refine oq_ (m := ?_) 7 (some 34) fun K hK => ?_
                  refine vq_ (v := ?_) (w1 := ?_) ?_
                  refine hK.out _ _ ⟨(blk_cell (blk_alloc BK119.out _) 0).trans rfl, (blk_cell (blk_alloc BK119.out _) 1).trans rfl⟩ (fun hHeld => ?_)
                  clear hK K
                  refine nq_ (b := ?_) (some 34) ?_
                  refine oq_ (m := ?_) 8 (some 35) fun K hK => ?_
                  refine Kd.R_append_step k53 (w0 := w) w.heap.size (by rfl) (.tmp 27) (.tmp 34) 22 53 (.agg #[(.int .i64 0), (.slice none 0 0)]) 32 rfl Try.underlying22 info53 rfl (by decide) (by omega) u5 x5_1 (⟨(rd_T53 l0_4 x23_1).f0, t120⟩ : S53) [.int .i64 ((rd_T53 l0_4 x23_1).f0), .slice Ao34 t120.length co34] (fun k_ => k_ ≠ gb119) (fun k_ => ((fun k_ => k_ ≠ gb119)) k_ ∧ some k_ ≠ (u5 : Value).ownBlock) rfl rfl ?aP (fun _ hk => hk) ?aF ?aO ?aB ?aS ?aL ?_
                  (case aP => exact k53_mkM _ _ _ (⟨(rd_T53 l0_4 x23_1).f0, t120⟩ : S53) (Kd.R_mono (Kd.R_types (Kd.R_apart' ((Kd.S_R HO122.out)) (Kd.R_typed HO_5.out) (by decide)) BK119.out (by decide)) (fun k_ hk => ⟨hk.2, hk.1.2⟩)))
                  (case aB => exact (kB4 HB GE109 GE110 GE111 GE119))
                  (case aF => exact (fun k_ hk => Kd.freshB (g := gb119) (o := .cells #[.int .i64 ((rd_T53 l0_4 x23_1).f0), .slice A118_1 ((rd_T53 l0_4 x23_1).f1).length c118_1] 53 (0, 0)) (kb BK119) k_ hk))
                  (case aO => exact (by (with_reducible repeat (first | apply Kd.R_alloc | apply Kd.R_drewN | apply Kd.R_drew)); exact Kd.R_mono HO_5.out (fun _ hk => hk.1)))
                  (case aS => exact (below_size (kB4 HB GE109 GE110 GE111 GE119)))
                  (case aL => have := LMc25.out; omega)
                  intro v124 w35 ho hb hg hat
                  rw [← Ny123.out] at ho
                  have n0_ := aS_ (Kd.R_over' (kR HO_112001) (Kd.R_typed (kR HO_5)) (by decide) hg)
                  have n1_ := aS_ (Kd.R_over' (kR HO_112003) (Kd.R_typed (kR HO_5)) (by decide) hg)
                  have n2_ := aS_ (blk_grown (g := gb109) (o := .cells #[.string a0_0, .slice A0_1 l0_1.length c0_1, .int .i64 a0_2, .slice A0_3 l0_3.length c0_3, .slice (some ad118) l0_4.length c0_4] 63 (0, 0)) (kb BK109) hg (Kd.R_ne HO_5.out BK109.out (by decide)))
                  have n3_ := aS_ (blk_grown (g := gb110) (o := .cells #[.string (⟨#[]⟩ : ByteArray), .slice none 0 0, .int .i64 0, .slice none 0 0, .slice none 0 0] 63 (0, 0)) (kb BK110) hg (Kd.R_ne HO_5.out BK110.out (by decide)))
                  have n4_ := aS_ (blk_grown (g := gb111) (o := .cells #[.string a0_0, .slice Ao14 y112.length co14, .int .i64 a0_2, .slice Ao18 y115.length co18, .slice (some ad118) l0_4.length c0_4] 63 (0, 0)) (kb BK111) hg (Kd.R_ne HO_5.out BK111.out (by decide)))
                  have n5_ := aS_ (blk_grown (g := gb119) (o := .cells #[.int .i64 ((rd_T53 l0_4 x23_1).f0), .slice A118_1 ((rd_T53 l0_4 x23_1).f1).length c118_1] 53 (0, 0)) (kb BK119) hg (Kd.R_away HO_5.out (fun _ hk => hk.1)))
                  have n6_ := aS_ (hb)
                  have n7_ := aS_ (ho)
                  clear HO_112001
                  clear HO_112003
                  clear BK109
                  clear BK110
                  clear BK111
                  clear BK119
                  clear HB
                  clear HO_5
                  clear HO122
                  have HO_112001 := n0_
                  have HO_112003 := n1_
                  have BK109 := n2_
                  have BK110 := n3_
                  have BK111 := n4_
                  have BK119 := n5_
                  have HB := n6_
                  have HO125 := n7_
                  clear n0_ n1_ n2_ n3_ n4_ n5_ n6_ n7_
                  clear ho hb hg hat
                  refine hK.out _ _ ⟨(blk_cell BK119.out 0).trans rfl, (blk_cell BK119.out 1).trans rfl⟩ (fun hHeld => ?_)
                  clear hK K
                  refine nq_ (b := ?_) (some 35) ?_
                  refine pq_ (v := ?_) (b := ?_) (m := ?_) 9 (some 5) ?_
                  refine done_ (done_of HT_.out (by kernel_rfl)) ?_
                  try go_wp2
                  go_roundg k1
                  case measure => have := HK1.out; omega
                  case rel => exact ⟨(y123), (wrap64 (x23_1 + 1)), kr, H', ⟨by have := HK1.out; omega⟩, ⟨by (with_reducible repeat (first | apply Kd.R_alloc | apply Kd.R_drewN | apply Kd.R_drew)); exact Kd.R_mono HO125.out (fun _ hk => trivial)⟩, ⟨kR HO_112001⟩, ⟨kR HO_112003⟩, ⟨kb BK109⟩, ⟨kb BK110⟩, ⟨kb BK111⟩, ⟨kB4 HB GE109 GE110 GE111 GE119⟩⟩
                · rw [if_neg c25] at H
                  exact absurd H (by simp)
              · rw [if_neg c23] at H
                exact absurd H (by simp)
            · rw [if_neg c22] at H
              exact absurd H (by simp)
          · rw [if_neg c21] at H
            have c21b0 := decide_eq_false c21
            clear c21
            simp only [Option.some.injEq, Prod.mk.injEq] at H
            obtain ⟨rfl, rfl, rfl, rfl, rfl⟩ := H
            obtain ⟨Ao36, co36, eo36⟩ := Kd.R_slice HO_5.out
            subst eo36
            have hnb37 := NB111_109.out
            have hnc37 := NB109_111.out
            have hnb38 := NB111_110.out
            have hnc38 := NB110_111.out
            have hcz39 := blk5 (w := wr) BK111.out
            have hnb40 := NB110_109.out
            have hnc40 := NB109_110.out
            have hcz41 := blk5 (w := wr) BK110.out
            go_wp2
            refine bodyPost_ret (results_cell_row rfl _ _ gb110 63 #[.string a0_0, .slice Ao14 y112.length co14, .int .i64 a0_2, .slice Ao18 y115.length co18, .slice Ao36 x5_1.length co36] (0, 0) _ rfl (by (with_reducible repeat (first | refine blk_drewN ?_ _ | refine blk_drew ?_ | refine blk_alloc ?_ _)); refine blk_put (cs := #[.string a0_0, .slice Ao14 y112.length co14, .int .i64 a0_2, .slice Ao18 y115.length co18, .slice none 0 0]) ?_ 4 _ rfl; (with_reducible repeat (first | refine blk_drewN ?_ _ | refine blk_drew ?_ | refine blk_alloc ?_ _)); refine blk_put (cs := #[.string a0_0, .slice Ao14 y112.length co14, .int .i64 a0_2, .slice none 0 0, .slice none 0 0]) ?_ 3 _ rfl; (with_reducible repeat (first | refine blk_drewN ?_ _ | refine blk_drew ?_ | refine blk_alloc ?_ _)); refine blk_put (cs := #[.string a0_0, .slice Ao14 y112.length co14, .int .i64 0, .slice none 0 0, .slice none 0 0]) ?_ 2 _ rfl; (with_reducible repeat (first | refine blk_drewN ?_ _ | refine blk_drew ?_ | refine blk_alloc ?_ _)); refine blk_put (cs := #[.string a0_0, .slice none 0 0, .int .i64 0, .slice none 0 0, .slice none 0 0]) ?_ 1 _ rfl; (with_reducible repeat (first | refine blk_drewN ?_ _ | refine blk_drew ?_ | refine blk_alloc ?_ _)); refine blk_put (cs := #[.string (⟨#[]⟩ : ByteArray), .slice none 0 0, .int .i64 0, .slice none 0 0, .slice none 0 0]) ?_ 0 _ rfl; (with_reducible repeat (first | refine blk_drewN ?_ _ | refine blk_drew ?_ | refine blk_alloc ?_ _)); refine blk_far ?_ NB110_111.out _; (with_reducible repeat (first | refine blk_drewN ?_ _ | refine blk_drew ?_ | refine blk_alloc ?_ _)); exact BK110.out) Try.underlying63 rfl (by kernel_rfl)) rfl ?_
            exact ⟨_, _, _, by first | rfl | (simp [errW_none, errW_some] <;> rfl) | (simp [*, errW_none, errW_some] <;> rfl), by (with_reducible repeat (first | apply Kd.R_alloc | apply Kd.R_drewN | apply Kd.R_drew)); exact Kd.R_mono (Kd.R_far (p := ⟨gb110, 4, none⟩) (Kd.R_far (p := ⟨gb110, 3, none⟩) (Kd.R_far (p := ⟨gb110, 2, none⟩) (Kd.R_far (p := ⟨gb110, 1, none⟩) (Kd.R_far (p := ⟨gb110, 0, none⟩) (Kd.R_far (p := ⟨gb111, 4, none⟩) (Kd.R_types (Kd.R_types HO_112001.out BK111.out (by decide)) BK110.out (by decide)) (fun _ hk => hk.1.2) (.slice Ao36 x5_1.length co36)) (fun _ hk => hk.2) (.string a0_0)) (fun _ hk => hk.2) (.slice Ao14 y112.length co14)) (fun _ hk => hk.2) (.int .i64 a0_2)) (fun _ hk => hk.2) (.slice Ao18 y115.length co18)) (fun _ hk => hk.2) (.slice Ao36 x5_1.length co36)) (fun _ hk => trivial), by (with_reducible repeat (first | apply Kd.R_alloc | apply Kd.R_drewN | apply Kd.R_drew)); exact Kd.R_mono (Kd.R_far (p := ⟨gb110, 4, none⟩) (Kd.R_far (p := ⟨gb110, 3, none⟩) (Kd.R_far (p := ⟨gb110, 2, none⟩) (Kd.R_far (p := ⟨gb110, 1, none⟩) (Kd.R_far (p := ⟨gb110, 0, none⟩) (Kd.R_far (p := ⟨gb111, 4, none⟩) (Kd.R_types (Kd.R_types HO_112003.out BK111.out (by decide)) BK110.out (by decide)) (fun _ hk => hk.1.2) (.slice Ao36 x5_1.length co36)) (fun _ hk => hk.2) (.string a0_0)) (fun _ hk => hk.2) (.slice Ao14 y112.length co14)) (fun _ hk => hk.2) (.int .i64 a0_2)) (fun _ hk => hk.2) (.slice Ao18 y115.length co18)) (fun _ hk => hk.2) (.slice Ao36 x5_1.length co36)) (fun _ hk => trivial), by (with_reducible repeat (first | apply Kd.R_alloc | apply Kd.R_drewN | apply Kd.R_drew)); exact Kd.R_mono (Kd.R_far (p := ⟨gb110, 4, none⟩) (Kd.R_far (p := ⟨gb110, 3, none⟩) (Kd.R_far (p := ⟨gb110, 2, none⟩) (Kd.R_far (p := ⟨gb110, 1, none⟩) (Kd.R_far (p := ⟨gb110, 0, none⟩) (Kd.R_far (p := ⟨gb111, 4, none⟩) (Kd.R_types (Kd.R_types HO_5.out BK111.out (by decide)) BK110.out (by decide)) (fun _ hk => hk.1.2) (.slice Ao36 x5_1.length co36)) (fun _ hk => hk.2) (.string a0_0)) (fun _ hk => hk.2) (.slice Ao14 y112.length co14)) (fun _ hk => hk.2) (.int .i64 a0_2)) (fun _ hk => hk.2) (.slice Ao18 y115.length co18)) (fun _ hk => hk.2) (.slice Ao36 x5_1.length co36)) (fun _ hk => trivial), kB3 HB GE109 GE110 GE111⟩
    · rw [if_neg c3] at H
      exact absurd H (by simp)
  · rw [if_neg c2] at H
    exact absurd H (by simp)

/-! ### thicketlaw14_copied: function 7 -/
def thicketlaw14_copied.f (k : Nat) (l0 : List (S53)) : Option ((List (S53))) := (thicketref07_Copy.f k (⟨#[]⟩ : ByteArray) ([] : List ByteArray) 0 ([] : List Int) l0).bind fun bt126 => (some bt126.2.2.2.2)
theorem thicketlaw14_copied.mono : ∀ a0 k, LeO (thicketlaw14_copied.f k a0) (thicketlaw14_copied.f (k + 1) a0) := by
  intro a0 k
  unfold thicketlaw14_copied.f
  repeat' first
      | (with_reducible exact thicketref07_Copy.mono _ _ _ _ _ _)
      | (with_reducible exact LeO.refl _)
      | (with_reducible exact LeO.none _)
      | (with_reducible refine LeO.ite ?_ ?_)
      | (with_reducible refine LeO.bind ?_ (fun _ => ?_))
set_option maxHeartbeats 8000000 in
set_option maxRecDepth 100000 in
theorem thicketlaw14_copied.calls (k : Nat) (A0 : Option Addr) (c0 : Nat) (l0 : List (S53)) (r : List (S53)) (w : World) (hr0 : Kd.C k53 w A0 l0.length l0) (hc0 : l0.length ≤ c0) (h : thicketlaw14_copied.f k l0 = some r) :
    Calls Try.prog 7 #[.slice A0 l0.length c0] w fun e w' => ∃ v0_ : Value, e = .returned (v0_) ∧ Kd.R k53 53 w' w.heap.size (fun _ => True) v0_ r ∧ Below w.heap.size w w' := by
  have hu63 := Try.underlying63
  have HR0 := aS_ hr0
  have HC0 := aS_ hc0
  clear hr0 hc0
  have HB := aS_ (Below.refl w.heap.size w)
  have H : ((thicketref07_Copy.f k (⟨#[]⟩ : ByteArray) ([] : List ByteArray) 0 ([] : List Int) l0).bind fun bt126 => (some bt126.2.2.2.2)) = some r := h
  clear h
  replace H := Option.bind_eq_some_iff.mp H
  obtain ⟨⟨t126, t127, t130, t131, t134⟩, A20, H⟩ := H
  replace H : (some t134) = some r := H
  have A2 := aS_ A20
  clear A20
  obtain rfl := Option.some.inj H
  go_enter Try.func7, Try.ntmps7
  go_wp2_with (first | ((with_reducible refine gate_callee (f := 21) rfl ?_); refine goesL_ (some 6) rfl rfl Try.func21 (by kernel_rfl) rfl #[.agg #[.string (⟨#[]⟩ : ByteArray), .slice none 0 0, .int .i64 0, .slice none 0 0, .slice A0 l0.length c0]] rfl (by (try simp only [List.map_toArray, List.map_cons, List.map_nil]); first | done | rfl | (simp only [List.length_drop, List.length_take]; rfl)) ?_; (refine (thicketref07_Copy.calls k (⟨#[]⟩ : ByteArray) _ _ ([] : List ByteArray) 0 _ _ ([] : List Int) _ _ l0 t126 t127 t130 t131 t134 _ ?side1 ?side2 ?side3 ?side4 ?side5 ?side6 A2.out).mono ?_); (case side1 => exact Kd.C_nil _ _); (case side2 => exact Nat.le_refl _); (case side3 => exact Kd.C_nil _ _); (case side4 => exact Nat.le_refl _); (case side5 => repeat (first | exact HR0.out | (with_reducible refine Kd.C_alloc ?_ _) | (with_reducible refine Kd.C_drewN ?_ _) | (with_reducible refine Kd.C_drew ?_))); (case side6 => exact HC0.out); rintro e w3 ⟨v128, v132, v135, rfl, ho0, ho1, ho2, hb⟩; refine ⟨_, rfl, ?_⟩; have n0_ := aS_ (Kd.R_lower ho0 (below_size (kB0 HB))); have n1_ := aS_ (Kd.R_lower ho1 (below_size (kB0 HB))); have n2_ := aS_ (Kd.R_lower ho2 (below_size (kB0 HB))); have n3_ := aS_ (below_step (kB0 HB) hb); clear HB; have HO129 := n0_; have HO133 := n1_; have HO136 := n2_; have HB := n3_; clear n0_ n1_ n2_ n3_; (try clear hb); (try clear hb2); (try clear hk); (try clear hi); (try clear ho0); (try clear ho1); (try clear ho2)) | ((with_reducible refine gate_dst (N := 3) rfl ?_); refine box_event ?hg (N := 3) ?hd (cs := #[.string (⟨#[]⟩ : ByteArray), .slice none 0 0, .int .i64 0, .slice none 0 0, .slice none 0 0]) (t := 63) ?hr ?_; (case hd => rfl); (case hg => rfl); (case hr => first | (go_simp; done) | (go_simp; rfl)); intro gb137 hg w4 hbox hb; have n0_ := aS_ (Kd.R_below (kR HO129) hb); have n1_ := aS_ (Kd.R_below (kR HO133) hb); have n2_ := aS_ (Kd.R_below (kR HO136) hb); have n3_ := aS_ (below_step (kB0 HB) hb); have n4_ := aS_ (hbox); have n5_ := aS_ ((kg hg (kB0 HB) : w.heap.size ≤ gb137)); have n6_ := aS_ ((kg hg (kB0 HB) : w.heap.size ≤ gb137)); clear HO129; clear HO133; clear HO136; clear HB; have HO129 := n0_; have HO133 := n1_; have HO136 := n2_; have HB := n3_; have BK137 := n4_; have GW137 := n5_; have GE137 := n6_; clear n0_ n1_ n2_ n3_ n4_ n5_ n6_; clear hb hbox hg; have hcz5 := blk5 (w := w4) BK137.out; obtain ⟨Ao6, co6, eo6⟩ := Kd.R_slice HO129.out; subst eo6; obtain ⟨Ao7, co7, eo7⟩ := Kd.R_slice HO133.out; subst eo7; obtain ⟨Ao8, co8, eo8⟩ := Kd.R_slice HO136.out; subst eo8))
  go_ret
  exact ⟨_, by first | rfl | (simp [errW_none, errW_some] <;> rfl) | (simp [*, errW_none, errW_some] <;> rfl), by (with_reducible repeat (first | apply Kd.R_alloc | apply Kd.R_drewN | apply Kd.R_drew)); exact Kd.R_mono (Kd.R_far (p := ⟨gb137, 4, none⟩) (Kd.R_far (p := ⟨gb137, 3, none⟩) (Kd.R_far (p := ⟨gb137, 2, none⟩) (Kd.R_far (p := ⟨gb137, 1, none⟩) (Kd.R_far (p := ⟨gb137, 0, none⟩) (Kd.R_types HO136.out BK137.out (by decide)) (fun _ hk => hk.2) (.string t126)) (fun _ hk => hk.2) (.slice Ao6 t127.length co6)) (fun _ hk => hk.2) (.int .i64 t130)) (fun _ hk => hk.2) (.slice Ao7 t131.length co7)) (fun _ hk => hk.2) (.slice Ao8 t134.length co8)) (fun _ hk => trivial), kB1 HB GE137⟩

/-! ### trees_inner: function 69 -/
def trees_inner.f (a0_0 : Int) (a0_1 : Int) (a0_2 : Int) (a0_3 : Nat) (l0_4 : List Int) (a0_5 : Int) (a0_6 : Int) (a0_7 : Int) : Option (Bool) := if a0_0 = 2 then (some true) else (some (a0_0 == 3))
set_option maxHeartbeats 8000000 in
set_option maxRecDepth 100000 in
theorem trees_inner.calls (a0_0 : Int) (a0_1 : Int) (a0_2 : Int) (a0_3 : Nat) (A0_4 : Option Addr) (c0_4 : Nat) (l0_4 : List Int) (a0_5 : Int) (a0_6 : Int) (a0_7 : Int) (r : Bool) (w : World) (hr0_4 : Kd.C (Kd.int .i64) w A0_4 l0_4.length l0_4) (hc0_4 : l0_4.length ≤ c0_4) (h : trees_inner.f a0_0 a0_1 a0_2 a0_3 l0_4 a0_5 a0_6 a0_7 = some r) :
    Calls Try.prog 69 #[.agg #[.int .u8 a0_0, .int .i64 a0_1, .int .i64 a0_2, .float .f64 a0_3, .slice A0_4 l0_4.length c0_4, .int .u8 a0_5, .int .i64 a0_6, .int .i64 a0_7]] w fun e w' => e = .returned (.bool r) ∧ Below w.heap.size w w' := by
  have hu71 := Try.underlying71
  have HR0_4 := aS_ hr0_4
  have HC0_4 := aS_ hc0_4
  clear hr0_4 hc0_4
  have HB := aS_ (Below.refl w.heap.size w)
  have H : (if a0_0 = 2 then (some true) else (some (a0_0 == 3))) = some r := h
  clear h
  by_cases c2 : a0_0 = 2
  · rw [if_pos c2] at H
    have c2b0 := beq_iff_eq.mpr c2
    have c2b1 := bne_eq_false_iff_eq.mpr c2
    clear c2
    obtain rfl := Option.some.inj H
    go_enter Try.func69, Try.ntmps69
    go_wp2_with (first | ((with_reducible refine gate_dst (N := 1) rfl ?_); refine box_event ?hg (N := 1) ?hd (cs := #[.int .u8 a0_0, .int .i64 a0_1, .int .i64 a0_2, .float .f64 a0_3, .slice A0_4 l0_4.length c0_4, .int .u8 a0_5, .int .i64 a0_6, .int .i64 a0_7]) (t := 71) ?hr ?_; (case hd => rfl); (case hg => rfl); (case hr => first | (go_simp; done) | (go_simp; rfl)); intro gb138 hg w3 hbox hb; have n0_ := aS_ (below_step (kB0 HB) hb); have n1_ := aS_ (hbox); have n2_ := aS_ ((kg hg (kB0 HB) : w.heap.size ≤ gb138)); have n3_ := aS_ ((kg hg (kB0 HB) : w.heap.size ≤ gb138)); clear HB; have HB := n0_; have BK138 := n1_; have GW138 := n2_; have GE138 := n3_; clear n0_ n1_ n2_ n3_; clear hb hbox hg; have hcz4 := blk8 (w := w3) BK138.out))
    go_ret
    exact ⟨by first | rfl | (simp [errW_none, errW_some] <;> rfl) | (simp [*, errW_none, errW_some] <;> rfl), kB1 HB GE138⟩
  · rw [if_neg c2] at H
    have c2b0 := beq_eq_false_iff_ne.mpr c2
    have c2b1 := bne_iff_ne.mpr c2
    obtain rfl := Option.some.inj H
    go_enter Try.func69, Try.ntmps69
    go_wp2_with (first | ((with_reducible refine gate_dst (N := 1) rfl ?_); refine box_event ?hg (N := 1) ?hd (cs := #[.int .u8 a0_0, .int .i64 a0_1, .int .i64 a0_2, .float .f64 a0_3, .slice A0_4 l0_4.length c0_4, .int .u8 a0_5, .int .i64 a0_6, .int .i64 a0_7]) (t := 71) ?hr ?_; (case hd => rfl); (case hg => rfl); (case hr => first | (go_simp; done) | (go_simp; rfl)); intro gb138 hg w5 hbox hb; have n0_ := aS_ (below_step (kB0 HB) hb); have n1_ := aS_ (hbox); have n2_ := aS_ ((kg hg (kB0 HB) : w.heap.size ≤ gb138)); have n3_ := aS_ ((kg hg (kB0 HB) : w.heap.size ≤ gb138)); clear HB; have HB := n0_; have BK138 := n1_; have GW138 := n2_; have GE138 := n3_; clear n0_ n1_ n2_ n3_; clear hb hbox hg; have hcz6 := blk8 (w := w5) BK138.out))
    go_ret
    exact ⟨by first | rfl | (simp [errW_none, errW_some] <;> rfl) | (simp [*, errW_none, errW_some] <;> rfl), kB1 HB GE138⟩

/-! by hand: a tenth of the print -/
mutual
def trees_right.j0 : Nat → Bool → Bool → Int → Int → Int → Nat → List Int → Int → Int → Int → Option (Bool)
 | 0, _, _, _, _, _, _, _, _, _, _ => none
 | k + 1, x5, x92, x248000, x248001, x248002, x248003, x248004, x248005, x248006, x248007 => if x92 = true then (some false) else (if x248000 = 2 then (if (feq x248003 x248003) = true then (some ((x248004.length : Int) == 0)) else (some false)) else (trees_right.l0 k x5 (-1) x248004 (x248004.length : Int) 0))
def trees_right.l0 : Nat → Bool → Int → List Int → Int → Int → Option (Bool)
 | 0, _, _, _, _, _ => none
 | k + 1, x5, x6, x108, x109, x110 => if x110 < x109 then (if 0 ≤ x110 then (if x110 < (x108.length : Int) then (if (rd x108 x110) ≤ x6 then (some false) else (if (rd x108 x110) ≥ 1024 then (some false) else (trees_right.l0 k x5 (rd x108 x110) x108 x109 (wrap64 (x110 + 1))))) else (none)) else (none)) else (if x5 = true then (some (decide (x6 ≥ 0))) else (some false))
end
def trees_right.f (k : Nat) (a0_0 : Int) (a0_1 : Int) (a0_2 : Int) (a0_3 : Nat) (l0_4 : List Int) (a0_5 : Int) (a0_6 : Int) (a0_7 : Int) (a1 : Int) : Option (Bool) := if a0_0 = 1 then (if a0_2 = 0 then (if (f64bits a0_3) = 0 then (if (l0_4.length : Int) = 0 then (if a0_5 = 0 then (if a0_6 = 0 then (some (a0_7 == 0)) else (some false)) else (some false)) else (some false)) else (some false)) else (some false)) else ((trees_inner.f a0_0 a0_1 a0_2 a0_3 l0_4 a0_5 a0_6 a0_7).bind fun t248 => (if t248 = true then (if a0_1 = 0 then (if a0_2 < 0 then (trees_right.j0 k ((f64bits a0_3) == 0) true a0_0 a0_1 a0_2 a0_3 l0_4 a0_5 a0_6 a0_7) else (if a0_2 ≥ 65536 then (trees_right.j0 k ((f64bits a0_3) == 0) true a0_0 a0_1 a0_2 a0_3 l0_4 a0_5 a0_6 a0_7) else (if a0_5 = 1 then (if a0_6 < 1 then (trees_right.j0 k ((f64bits a0_3) == 0) true a0_0 a0_1 a0_2 a0_3 l0_4 a0_5 a0_6 a0_7) else (if a0_6 ≥ a1 then (trees_right.j0 k ((f64bits a0_3) == 0) true a0_0 a0_1 a0_2 a0_3 l0_4 a0_5 a0_6 a0_7) else (if a0_7 < 1 then (trees_right.j0 k ((f64bits a0_3) == 0) true a0_0 a0_1 a0_2 a0_3 l0_4 a0_5 a0_6 a0_7) else (trees_right.j0 k ((f64bits a0_3) == 0) (decide (a0_7 ≥ a1)) a0_0 a0_1 a0_2 a0_3 l0_4 a0_5 a0_6 a0_7)))) else (if a0_5 = 2 then (if a0_6 < 1 then (trees_right.j0 k ((f64bits a0_3) == 0) true a0_0 a0_1 a0_2 a0_3 l0_4 a0_5 a0_6 a0_7) else (if a0_6 ≥ a1 then (trees_right.j0 k ((f64bits a0_3) == 0) true a0_0 a0_1 a0_2 a0_3 l0_4 a0_5 a0_6 a0_7) else (if a0_7 < 1 then (trees_right.j0 k ((f64bits a0_3) == 0) true a0_0 a0_1 a0_2 a0_3 l0_4 a0_5 a0_6 a0_7) else (trees_right.j0 k ((f64bits a0_3) == 0) (decide (a0_7 ≥ a1)) a0_0 a0_1 a0_2 a0_3 l0_4 a0_5 a0_6 a0_7)))) else (trees_right.j0 k ((f64bits a0_3) == 0) true a0_0 a0_1 a0_2 a0_3 l0_4 a0_5 a0_6 a0_7))))) else (trees_right.j0 k ((f64bits a0_3) == 0) true a0_0 a0_1 a0_2 a0_3 l0_4 a0_5 a0_6 a0_7)) else (trees_right.j0 k ((f64bits a0_3) == 0) true a0_0 a0_1 a0_2 a0_3 l0_4 a0_5 a0_6 a0_7)))
theorem trees_right.mono_l : ∀ k, (∀ y0 y1 y2 y3 y4 y5 y6 y7 y8 y9, LeO (trees_right.j0 k y0 y1 y2 y3 y4 y5 y6 y7 y8 y9) (trees_right.j0 (k + 1) y0 y1 y2 y3 y4 y5 y6 y7 y8 y9)) ∧ (∀ y0 y1 y2 y3 y4, LeO (trees_right.l0 k y0 y1 y2 y3 y4) (trees_right.l0 (k + 1) y0 y1 y2 y3 y4))
 | 0 => ⟨fun _ _ _ _ _ _ _ _ _ _ r h => by simp [trees_right.j0] at h, fun _ _ _ _ _ r h => by simp [trees_right.l0] at h⟩
 | k + 1 => by
  obtain ⟨ih0, ih1⟩ := trees_right.mono_l k
  refine ⟨?_, ?_⟩
  ·intro y0 y1 y2 y3 y4 y5 y6 y7 y8 y9
   unfold trees_right.j0
   repeat' first
   | (with_reducible exact ih0 _ _ _ _ _ _ _ _ _ _)
   | (with_reducible exact ih1 _ _ _ _ _)
   | (with_reducible exact LeO.refl _)
   | (with_reducible exact LeO.none _)
   | (with_reducible refine LeO.ite ?_ ?_)
   | (with_reducible refine LeO.bind ?_ (fun _ => ?_))
  ·intro y0 y1 y2 y3 y4
   unfold trees_right.l0
   repeat' first
   | (with_reducible exact ih0 _ _ _ _ _ _ _ _ _ _)
   | (with_reducible exact ih1 _ _ _ _ _)
   | (with_reducible exact LeO.refl _)
   | (with_reducible exact LeO.none _)
   | (with_reducible refine LeO.ite ?_ ?_)
   | (with_reducible refine LeO.bind ?_ (fun _ => ?_))
theorem trees_right.mono : ∀ a0 a1 a2 a3 a4 a5 a6 a7 a8 k, LeO (trees_right.f k a0 a1 a2 a3 a4 a5 a6 a7 a8) (trees_right.f (k + 1) a0 a1 a2 a3 a4 a5 a6 a7 a8) := by
 intro a0 a1 a2 a3 a4 a5 a6 a7 a8 k
 obtain ⟨ih0, ih1⟩ := trees_right.mono_l k
 unfold trees_right.f
 repeat' first
   | (with_reducible exact ih0 _ _ _ _ _ _ _ _ _ _)
   | (with_reducible exact ih1 _ _ _ _ _)
   | (with_reducible exact LeO.refl _)
   | (with_reducible exact LeO.none _)
   | (with_reducible refine LeO.ite ?_ ?_)
   | (with_reducible refine LeO.bind ?_ (fun _ => ?_))
section
variable (k : Nat) (a0 a1 a2 : Int) (a3 : Nat) (A4 : Option Addr) (c4 : Nat) (l4 : List Int) (a5 a6 a7 m : Int) (r : Bool) (w : World)
set_option maxHeartbeats 8000000 in
set_option maxRecDepth 100000 in
theorem trees_right.leaf (hk : a0 = 1) (h : Aside0 (trees_right.f k a0 a1 a2 a3 l4 a5 a6 a7 m = some r)) :
    Calls Try.prog 75 #[.agg #[.int .u8 a0, .int .i64 a1, .int .i64 a2, .float .f64 a3, .slice A4 l4.length c4, .int .u8 a5, .int .i64 a6, .int .i64 a7], .int .i64 m] w fun e w' => e = .returned (.bool r) ∧ Below w.heap.size w w' := by
  subst hk
  have HB := aS_ (Below.refl w.heap.size w)
  go_enter Try.func75, Try.ntmps75
  go_wp2_with (first | ((with_reducible refine gate_dst (N := 2) rfl ?_); refine box_event ?hg (N := 2) ?hd (cs := #[.int .u8 1, .int .i64 a1, .int .i64 a2, .float .f64 a3, .slice A4 l4.length c4, .int .u8 a5, .int .i64 a6, .int .i64 a7]) (t := 71) ?hr ?_; (case hd => rfl); (case hg => rfl); (case hr => first | (go_simp; done) | (go_simp; rfl)); intro gb hg w1 hbox hb; have n0_ := aS_ (below_step (kB0 HB) hb); have BK := aS_ hbox; clear HB; have HB := n0_; clear n0_ hb hbox hg; have hz := blk8 (w := w1) BK.out))
  all_goals (go_ret; refine ⟨?_, kB0 HB⟩; have h_ := h.out; unfold trees_right.f at h_; simp_all)
set_option maxHeartbeats 8000000 in
set_option maxRecDepth 100000 in
theorem trees_right.split (hl : Aside0 (Kd.C (Kd.int .i64) w A4 l4.length l4)) (hc : Aside0 (l4.length ≤ c4)) (hk : (a0 == 1) = false) (h : Aside0 (trees_right.f k a0 a1 a2 a3 l4 a5 a6 a7 m = some r)) :
    Calls Try.prog 75 #[.agg #[.int .u8 a0, .int .i64 a1, .int .i64 a2, .float .f64 a3, .slice A4 l4.length c4, .int .u8 a5, .int .i64 a6, .int .i64 a7], .int .i64 m] w fun e w' => e = .returned (.bool r) ∧ Below w.heap.size w w' := by
  have HB := aS_ (Below.refl w.heap.size w)
  obtain ⟨ri, hri⟩ : ∃ ri, trees_inner.f a0 a1 a2 a3 l4 a5 a6 a7 = some ri := by unfold trees_inner.f; split <;> exact ⟨_, rfl⟩
  have HI := aS_ hri
  clear hri
  obtain ⟨n0, hn0⟩ : ∃ n0, n0 = (f64bits a3 == 0) := ⟨_, rfl⟩
  have N0 := aS_ hn0
  clear hn0
  go_enter Try.func75, Try.ntmps75
  go_upto_region 4 with (first | ((with_reducible refine gate_dst (N := 2) rfl ?_); refine box_event ?hg (N := 2) ?hd (cs := #[.int .u8 a0, .int .i64 a1, .int .i64 a2, .float .f64 a3, .slice A4 l4.length c4, .int .u8 a5, .int .i64 a6, .int .i64 a7]) (t := 71) ?hr ?_; (case hd => rfl); (case hg => rfl); (case hr => first | (go_simp; done) | (go_simp; rfl)); intro gb hg w1 hbox hb; have n0_ := aS_ (below_step (kB0 HB) hb); have BK := aS_ hbox; clear HB; have HB := n0_; clear n0_ hb hbox hg; have hz := blk8 (w := w1) BK.out))
  go_cut [92] from 43 to 92 (fun s_ wc => ∃ b : Bool, s_ = .bool b ∧ Aside0 (trees_right.j0 k n0 b a0 a1 a2 a3 l4 a5 a6 a7 = some r) ∧ Aside0 (wc.heap[gb]? = some (.cells #[.int .u8 a0, .int .i64 a1, .int .i64 a2, .float .f64 a3, .slice A4 l4.length c4, .int .u8 a5, .int .i64 a6, .int .i64 a7] 71 (0, 0))) ∧ Aside0 (Below w.heap.size w wc))
  case first =>
    obtain ⟨t0, ht0⟩ : ∃ t_ : Bool, (a1 != 0) = t_ := ⟨_, rfl⟩
    obtain ⟨t1, ht1⟩ : ∃ t_ : Bool, decide (a2 < 0) = t_ := ⟨_, rfl⟩
    obtain ⟨t2, ht2⟩ : ∃ t_ : Bool, decide (a2 ≥ 65536) = t_ := ⟨_, rfl⟩
    have hu2 : decide (65536 ≤ a2) = t2 := ht2
    obtain ⟨t3, ht3⟩ : ∃ t_ : Bool, (a5 != 1) = t_ := ⟨_, rfl⟩
    obtain ⟨t4, ht4⟩ : ∃ t_ : Bool, (a5 != 2) = t_ := ⟨_, rfl⟩
    obtain ⟨t5, ht5⟩ : ∃ t_ : Bool, decide (a6 < 1) = t_ := ⟨_, rfl⟩
    obtain ⟨t6, ht6⟩ : ∃ t_ : Bool, decide (a6 ≥ m) = t_ := ⟨_, rfl⟩
    have hu6 : decide (m ≤ a6) = t6 := ht6
    obtain ⟨t7, ht7⟩ : ∃ t_ : Bool, decide (a7 < 1) = t_ := ⟨_, rfl⟩
    obtain ⟨t8, ht8⟩ : ∃ t_ : Bool, decide (a7 ≥ m) = t_ := ⟨_, rfl⟩
    have hu8 : decide (m ≤ a7) = t8 := ht8
    cases ri
    all_goals go_wp2_with (first | (go_at_call 69; (with_reducible refine (trees_inner.calls a0 a1 a2 a3 A4 c4 l4 a5 a6 a7 _ _ ?s1 ?s2 HI.out).mono ?_); (case s1 => exact Kd.C_below hl.out (kB0 HB)); (case s2 => exact hc.out); rintro e w2 ⟨rfl, hb⟩; have n0_ := aS_ (below_step (kB0 HB) hb); have b0_ := aS_ (blk_below (kb BK) hb); clear HB BK hz hb; have HB := n0_; have BK := b0_; clear n0_ b0_; have hz := blk8 (w := w2) BK.out))
    all_goals (go_meet; refine ⟨_, rfl, ⟨?_⟩, ⟨kb BK⟩, ⟨kB0 HB⟩⟩; have h_ := h.out; have hi_ := HI.out; have hn_ := N0.out; unfold trees_right.f at h_; first | (simp_all; done) | (simp_all; rw [if_neg (show ¬ a2 < 0 by omega), if_neg (show ¬ 65536 ≤ a2 by omega), if_neg (show ¬ a6 < 1 by omega), if_neg (show ¬ m ≤ a6 by omega), if_neg (show ¬ a7 < 1 by omega)] at h_; exact h_))
  case rest =>
    clear h HI hz BK HB
    obtain ⟨b, rfl, h, BK, HB⟩ := hcut
    cases k with
    | zero => exact absurd h.out (by simp [trees_right.j0])
    | succ k1 =>
      have hz := blk8 (w := wc) BK.out
      cases b
      · by_cases hk2 : a0 = 2
        · have e1 : (a0 == 2) = true := beq_iff_eq.2 hk2
          obtain ⟨t0, ht0⟩ : ∃ t_ : Bool, feq a3 a3 = t_ := ⟨_, rfl⟩
          go_wp2
          all_goals (go_ret; refine ⟨?_, kB0 HB⟩; have h_ := h.out; simp only [trees_right.j0] at h_; first | (simp_all; done) | (cases t0 <;> simp_all))
        · have e1 : (a0 == 2) = false := beq_eq_false_iff_ne.2 hk2
          have h2 := aS_ (show trees_right.l0 k1 n0 (-1) l4 (l4.length : Int) 0 = some r by have h_ := h.out; simp only [trees_right.j0] at h_; simp_all)
          clear h hk2
          go_wp2
          go_loopg [6, 110] k1 (fun kq v6 v110 w' => ∃ x6 x110 : Int, v6 = .int .i64 x6 ∧ v110 = .int .i64 x110 ∧ Aside0 (trees_right.l0 kq n0 x6 l4 (l4.length : Int) x110 = some r) ∧ Aside0 (w'.heap[gb]? = some (.cells #[.int .u8 a0, .int .i64 a1, .int .i64 a2, .float .f64 a3, .slice A4 l4.length c4, .int .u8 a5, .int .i64 a6, .int .i64 a7] 71 (0, 0))) ∧ Aside0 (Below w.heap.size w w'))
          case atStart => exact ⟨_, _, rfl, rfl, h2, BK, HB⟩
          case round =>
            clear h2 BK HB hz
            obtain ⟨x6, x110, rfl, rfl, h, BK, HB⟩ := hrel
            cases gk with
            | zero => exact absurd h.out (by simp [trees_right.l0])
            | succ k2 =>
              have hz := blk8 (w := wr) BK.out
              have h_ := h.out
              simp only [trees_right.l0] at h_
              by_cases c1 : x110 < (l4.length : Int)
              · rw [if_pos c1] at h_
                have d1 : decide (x110 < (l4.length : Int)) = true := decide_eq_true c1
                by_cases c2 : 0 ≤ x110
                · rw [if_pos c2, if_pos c1] at h_
                  obtain ⟨ad, rfl, e1⟩ := Kd.at_int hl.out x110 c2 c1
                  have e2 := cB_ HB.out e1
                  have p1 := eq_true c2
                  have p2 := eq_true c1
                  obtain ⟨y, hy⟩ : ∃ y, rd l4 x110 = y := ⟨_, rfl⟩
                  rw [hy] at e2 h_
                  obtain ⟨t0, ht0⟩ : ∃ t_ : Bool, decide (y ≤ x6) = t_ := ⟨_, rfl⟩
                  obtain ⟨t1, ht1⟩ : ∃ t_ : Bool, decide (y ≥ 1024) = t_ := ⟨_, rfl⟩
                  have hu1 : decide (1024 ≤ y) = t1 := ht1
                  have h := aS_ h_
                  clear h_ hy c1 c2 e1
                  cases t0
                  · cases t1
                    · go_wp2
                      go_roundg k2
                      case measure => exact Nat.lt_succ_self _
                      case rel => exact ⟨_, _, rfl, rfl, ⟨by have h_ := h.out; rw [if_neg (of_decide_eq_false ht0), if_neg (of_decide_eq_false ht1)] at h_; exact h_⟩, ⟨kb BK⟩, ⟨kB0 HB⟩⟩
                    · go_wp2
                      go_ret
                      exact ⟨by have h_ := h.out; rw [if_neg (of_decide_eq_false ht0), if_pos (of_decide_eq_true ht1)] at h_; simp_all, kB0 HB⟩
                  · go_wp2
                    go_ret
                    exact ⟨by have h_ := h.out; rw [if_pos (of_decide_eq_true ht0)] at h_; simp_all, kB0 HB⟩
                · rw [if_neg c2] at h_
                  exact absurd h_ (by simp)
              · rw [if_neg c1] at h_
                have d1 : decide (x110 < (l4.length : Int)) = false := decide_eq_false c1
                have h := aS_ h_
                have hn_ := N0.out.symm
                clear h_ c1
                simp only [hn_]
                clear hn_ N0
                cases n0
                · go_wp2
                  go_ret
                  exact ⟨by have h_ := h.out; simp only [Bool.false_eq_true, if_false, Option.some.injEq] at h_; rw [← h_]; first | rfl | (simp; done) | (simp_all; done), kB0 HB⟩
                · obtain ⟨t0, ht0⟩ : ∃ t_ : Bool, decide (x6 ≥ 0) = t_ := ⟨_, rfl⟩
                  have hu0 : decide (0 ≤ x6) = t0 := ht0
                  go_wp2
                  go_ret
                  exact ⟨by have h_ := h.out; simp only [if_true, Option.some.injEq] at h_; rw [← h_]; first | rfl | (simp [ht0]; done) | (simp_all; done), kB0 HB⟩
      · go_wp2
        go_ret
        refine ⟨?_, kB0 HB⟩
        have h_ := h.out
        simp only [trees_right.j0] at h_
        simp_all
theorem trees_right.calls (hr0_4 : Kd.C (Kd.int .i64) w A4 l4.length l4) (hc0_4 : l4.length ≤ c4) (h : trees_right.f k a0 a1 a2 a3 l4 a5 a6 a7 m = some r) :
    Calls Try.prog 75 #[.agg #[.int .u8 a0, .int .i64 a1, .int .i64 a2, .float .f64 a3, .slice A4 l4.length c4, .int .u8 a5, .int .i64 a6, .int .i64 a7], .int .i64 m] w fun e w' => e = .returned (.bool r) ∧ Below w.heap.size w w' := by
  by_cases hk : a0 = 1
  · exact trees_right.leaf k a0 a1 a2 a3 A4 c4 l4 a5 a6 a7 m r w hk ⟨h⟩
  · exact trees_right.split k a0 a1 a2 a3 A4 c4 l4 a5 a6 a7 m r w ⟨hr0_4⟩ ⟨hc0_4⟩ (beq_eq_false_iff_ne.2 hk) ⟨h⟩
end

end Go.Proofs.Ytfmjgjfbnilpoaa.FAll
