/-
  thicketref08.head: the document's rules 1 to 7.
-/
import Derived.Test.YtkemfbocojoagaaDoorRj
import Derived.Test.YtkemfbocojoagaaDoorPn
namespace Go.Proofs.YtkemfbocojoagaaDoor.FAll
open Go.RowKit Go.Shelf Go.Maps Go.WideMaps Go.Proofs.YtkemfbocojoagaaDoorW.PrintWords Go.Proofs.YtkemfbocojoagaaDoorW.PrintLast Go.Proofs.YtkemfbocojoagaaDoorW.PrintMore
set_option linter.unusedVariables false
set_option linter.unusedSimpArgs false
theorem below_drawn0 {w w' : World} (h : Drawn0 w w') : Below w.heap.size w w' := by
  obtain ⟨⟨nd, rfl⟩⟩ := h
  exact pw_below_drewN (Below.refl _ _) nd
theorem own_any {w w' : World} {b n : Nat} {D : DataW Unit} (h : w.ownsMap Tryd.prog 9 (plainElem Tryd.prog 3) b n D) (k : w.ownsMap Tryd.prog 9 (plainElem Tryd.prog 3) b n D → w'.ownsMap Tryd.prog 9 (plainElem Tryd.prog 3) b n D := by intro h_; (first | exact h_ | exact h_.drew)) : w'.ownsMap Tryd.prog 9 (plainElem Tryd.prog 3) b n D := k h
/-- What head answers. -/
def headV (nm : ByteArray) (fs : List ByteArray) (outs : Int) (nb nt : Nat) : Int × Int × Int × Bool :=
  if (c1Head nm fs.length).2 = true then ((c1Head nm fs.length).1, -1, -1, true) else
  match featV fs fs.length 0 with
  | some p => (p.1, -1, p.2, true)
  | none => if (c3Head outs nb nt).2 = true then ((c3Head outs nb nt).1, -1, -1, true) else (0, 0, 0, false)
section
variable (nm : ByteArray) (AF : Option Addr) (cF : Nat) (fs : List ByteArray) (outs : Int) (AB : Option Addr) (cB : Nat) (bs : List Int) (AT : Option Addr) (cT : Nat) (ts : List S36)
set_option maxHeartbeats 16000000 in
set_option maxRecDepth 100000 in
theorem refHead.calls (w : World) (hfs : Aside0 (Kd.C Kd.string w AF fs.length fs)) (hsz : Aside0 (∀ s ∈ fs, s.size ≤ maxLen)) (hnm : Aside0 (nm.size ≤ maxLen)) (r1 r2 r3 : Int) (r4 : Bool) (H : Aside0 (headV nm fs outs bs.length ts.length = (r1, r2, r3, r4))) :
    Calls Tryd.prog 10 #[.agg #[.string nm, .slice AF fs.length cF, .int .i64 outs, .slice AB bs.length cB, .slice AT ts.length cT]] w fun e w' => e = .returned (.tuple #[.agg #[.int .i64 r1, .int .i64 r2, .int .i64 r3], .bool r4]) ∧ Below w.heap.size w w' := by
  have HB := Aside0.mk (Below.refl w.heap.size w)
  have hmm := @run_makeMap Tryd.prog
  obtain ⟨kn, hkn⟩ := refName_total nm (by have := hnm.out; unfold maxLen at this; omega)
  by_cases q1 : NameB nm
  · rw [decide_eq_true q1] at hkn
    have HN := Aside0.mk hkn
    clear hkn
    by_cases q2 : 1 ≤ fs.length ∧ fs.length ≤ 65536
    · have NF := Aside0.mk q2
      have H1 := Aside0.mk (show (match featV fs fs.length 0 with
        | some p => (p.1, -1, p.2, true)
        | none => if (c3Head outs bs.length ts.length).2 = true then ((c3Head outs bs.length ts.length).1, -1, -1, true) else (0, 0, 0, false)) = (r1, r2, r3, r4) by
          have h := H.out
          unfold headV c1Head at h
          rw [if_pos q1, if_pos q2] at h
          exact h)
      have d1 : decide ((fs.length : Int) < 1) = false := decide_eq_false (by omega)
      have d2 : decide (65536 < (fs.length : Int)) = false := decide_eq_false (by omega)
      clear q1 q2 H
      go_enter Tryd.func10, Tryd.ntmps10
      go_wp2_with (first | ((with_reducible refine gate_dst (N := 1) rfl ?_); refine box_event ?hg (N := 1) ?hd (cs := #[.string nm, .slice AF fs.length cF, .int .i64 outs, .slice AB bs.length cB, .slice AT ts.length cT]) (t := 26) ?hr ?_; (case hd => rfl); (case hg => rfl); (case hr => first | (go_simp; done) | (go_simp; rfl)); intro ge hg w1 hbox hb; have n0_ := Aside0.mk (below_step (kB0 HB) hb); skip; have Bge := Aside0.mk hbox; have Gge := Aside0.mk (kg hg (kB0 HB) : w.heap.size ≤ ge); clear HB; have HB := n0_; clear n0_ hb hbox hg; skip) | ((with_reducible refine gate_dst (N := 2) rfl ?_); refine box_event ?hg (N := 2) ?hd (cs := #[.int .i64 0, .int .i64 0, .int .i64 0]) (t := 30) ?hr ?_; (case hd => rfl); (case hg => rfl); (case hr => first | (go_simp; done) | (go_simp; rfl)); intro gr hg w2 hbox hb; have n0_ := Aside0.mk (below_step (kB0 HB) hb); have mge_ := Aside0.mk (blk_below (kb Bge) hb); clear Bge; have Bge := mge_; clear mge_; have Bgr := Aside0.mk hbox; have Ggr := Aside0.mk (kg hg (kB0 HB) : w.heap.size ≤ gr); clear HB; have HB := n0_; clear n0_ hb hbox hg; have he := blk5 (w := w2) Bge.out) | (go_at_call 29; (with_reducible refine (thicketref03_Name.calls kn nm true _ HN.out).mono ?_); rintro e w3 ⟨rfl, hd⟩; have hb := below_drawn0 hd; have n1_ := Aside0.mk (below_step (kB0 HB) hb); have mge_ := Aside0.mk (blk_below (kb Bge) hb); have mgr_ := Aside0.mk (blk_below (kb Bgr) hb); clear HB Bge Bgr; have HB := n1_; have Bge := mge_; have Bgr := mgr_; clear n1_ mge_ mgr_; clear hb hd he; have he := blk5 (w := w3) Bge.out))
      clear he hmm d1 d2
      obtain ⟨b, hb⟩ : ∃ b, b = w3.heap.size := ⟨_, rfl⟩
      have GM := Aside0.mk (hb ▸ below_size (kB0 HB) : w.heap.size ≤ b)
      have L1 := Aside0.mk (hb ▸ blk_lt Bge.out : ge < b)
      have L2 := Aside0.mk (hb ▸ blk_lt Bgr.out : gr < b)
      rw [← hb]
      have HBB := Aside0.mk hb
      clear hb
      go_loopg [6] (fs.length + 1) (fun kq v6 w' => ∃ (x : Int) (n : Nat) (D : DataW Unit), v6 = .int .i64 x ∧ Aside0 (x = n) ∧ Aside0 (featV fs (fs.length - n) n = featV fs fs.length 0) ∧ Aside0 (n ≤ fs.length) ∧ Aside0 (fs.length - n < kq) ∧ Aside0 (w'.heap[ge]? = some (.cells #[.string nm, .slice AF fs.length cF, .int .i64 outs, .slice AB bs.length cB, .slice AT ts.length cT] 26 (0, 0))) ∧ Aside0 (w'.heap[gr]? = some (.cells #[.int .i64 0, .int .i64 0, .int .i64 0] 30 (0, 0))) ∧ Aside0 (w'.ownsMap Tryd.prog 9 (plainElem Tryd.prog 3) b n D) ∧ Aside0 (IsMap D) ∧ Aside0 (∀ s : ByteArray, D.atKey (.string s.data.toList) (.lit (.int .i64 0)) = .lit (.int .i64 (if cnt fs n s = 0 then 0 else 1))) ∧ Aside0 (Below w.heap.size w w'))
      case atStart => exact ⟨0, 0, .map [], rfl, ⟨rfl⟩, ⟨rfl⟩, ⟨Nat.zero_le _⟩, ⟨by omega⟩, ⟨kb Bge⟩, ⟨kb Bgr⟩, ⟨by rw [HBB.out]; exact World.ownsMap_made w3 _ _ _⟩, ⟨isMap_empty⟩, ⟨fun s => rfl⟩, ⟨kB0 HB⟩⟩
      case round =>
        clear HB Bge Bgr HBB
        obtain ⟨x, n, D, rfl, hx, hs, hn, hk, Bge, Bgr, hown, hmap, hat, HB⟩ := hrel
        cases gk with
        | zero => exact absurd hk.out (by omega)
        | succ k1 =>
          have he := blk5 (w := wr) Bge.out
          have hxx := hx.out
          have hnn := hn.out
          by_cases hend : n = fs.length
          · have cnd : decide (x < (fs.length : Int)) = false := decide_eq_false (by omega)
            have hnone : featV fs fs.length 0 = none := by rw [← hs.out, hend, Nat.sub_self]; rfl
            have H2 := Aside0.mk (show (if (c3Head outs bs.length ts.length).2 = true then ((c3Head outs bs.length ts.length).1, (-1 : Int), (-1 : Int), true) else (0, 0, 0, false)) = (r1, r2, r3, r4) by have h := H1.out; rw [hnone] at h; exact h)
            clear hxx hnn hend hnone hs hx hn hk hown hmap hat H1
            have hgr := blk3 (w := wr) Bgr.out
            by_cases c5 : 1 ≤ outs ∧ outs ≤ 64
            · have d1 : decide (outs < 1) = false := decide_eq_false (by omega)
              have d2 : decide (64 < outs) = false := decide_eq_false (by omega)
              by_cases c6 : (bs.length : Int) = outs
              · have d3 : ((bs.length : Int) == outs) = true := beq_iff_eq.mpr c6
                have d4 : ((bs.length : Int) != outs) = false := bne_eq_false_iff_eq.mpr c6
                by_cases c7 : ts.length ≤ 65536
                · have d5 : decide (65536 < (ts.length : Int)) = false := decide_eq_false (by omega)
                  have H3 := H2.out
                  unfold c3Head at H3
                  rw [if_pos c5, if_pos c6, if_pos c7] at H3
                  obtain ⟨rfl, H4⟩ := Prod.mk.inj H3
                  obtain ⟨rfl, H5⟩ := Prod.mk.inj H4
                  obtain ⟨rfl, rfl⟩ := Prod.mk.inj H5
                  clear c5 c6 c7 H2 H3 H4 H5
                  go_wp2
                  refine bodyPost_ret (results_ct rfl _ _ gr 30 #[.int .i64 0, .int .i64 0, .int .i64 0] (0, 0) _ rfl (by (with_reducible repeat (first | refine blk_drewN ?_ _ | refine blk_drew ?_ | refine blk_alloc ?_ _)); refine blk_put (cs := #[.int .i64 0, .int .i64 0, .int .i64 0]) ?_ 2 _ rfl; (with_reducible repeat (first | refine blk_drewN ?_ _ | refine blk_drew ?_ | refine blk_alloc ?_ _)); refine blk_put (cs := #[.int .i64 0, .int .i64 0, .int .i64 0]) ?_ 1 _ rfl; (with_reducible repeat (first | refine blk_drewN ?_ _ | refine blk_drew ?_ | refine blk_alloc ?_ _)); refine blk_put (cs := #[.int .i64 0, .int .i64 0, .int .i64 0]) ?_ 0 _ rfl; (with_reducible repeat (first | refine blk_drewN ?_ _ | refine blk_drew ?_ | refine blk_alloc ?_ _)); exact Bgr.out) Tryd.underlying30 rfl (by kernel_rfl)) rfl ?_; exact ⟨rfl, kB1 HB Ggr⟩
                · have d5 : decide (65536 < (ts.length : Int)) = true := decide_eq_true (by omega)
                  have H3 := H2.out
                  unfold c3Head at H3
                  rw [if_pos c5, if_pos c6, if_neg c7] at H3
                  obtain ⟨rfl, H4⟩ := Prod.mk.inj H3
                  obtain ⟨rfl, H5⟩ := Prod.mk.inj H4
                  obtain ⟨rfl, rfl⟩ := Prod.mk.inj H5
                  clear c5 c6 c7 H2 H3 H4 H5 hgr
                  go_wp2_with (first | (go_at_call 30; (with_reducible refine (thicketref08_broken.calls 7 (-1) (-1) _ _ _ _ _ rfl).mono ?_); rintro e w9 ⟨rfl, hb⟩; have n1_ := Aside0.mk (below_step (kB0 HB) hb); have mge_ := Aside0.mk (blk_below (kb Bge) hb); have mgr_ := Aside0.mk (blk_below (kb Bgr) hb); clear HB Bge Bgr; have HB := n1_; have Bge := mge_; have Bgr := mgr_; clear n1_ mge_ mgr_; clear hb; have hgr := blk3 (w := w9) Bgr.out))
                  refine bodyPost_ret (results_ct rfl _ _ gr 30 #[.int .i64 7, .int .i64 (-1), .int .i64 (-1)] (0, 0) _ rfl (by (with_reducible repeat (first | refine blk_drewN ?_ _ | refine blk_drew ?_ | refine blk_alloc ?_ _)); refine blk_put (cs := #[.int .i64 7, .int .i64 (-1), .int .i64 0]) ?_ 2 _ rfl; (with_reducible repeat (first | refine blk_drewN ?_ _ | refine blk_drew ?_ | refine blk_alloc ?_ _)); refine blk_put (cs := #[.int .i64 7, .int .i64 0, .int .i64 0]) ?_ 1 _ rfl; (with_reducible repeat (first | refine blk_drewN ?_ _ | refine blk_drew ?_ | refine blk_alloc ?_ _)); refine blk_put (cs := #[.int .i64 0, .int .i64 0, .int .i64 0]) ?_ 0 _ rfl; (with_reducible repeat (first | refine blk_drewN ?_ _ | refine blk_drew ?_ | refine blk_alloc ?_ _)); exact Bgr.out) Tryd.underlying30 rfl (by kernel_rfl)) rfl ?_; exact ⟨rfl, kB1 HB Ggr⟩
              · have d3 : ((bs.length : Int) == outs) = false := beq_eq_false_iff_ne.mpr c6
                have d4 : ((bs.length : Int) != outs) = true := bne_iff_ne.mpr c6
                have H3 := H2.out
                unfold c3Head at H3
                rw [if_pos c5, if_neg c6] at H3
                obtain ⟨rfl, H4⟩ := Prod.mk.inj H3
                obtain ⟨rfl, H5⟩ := Prod.mk.inj H4
                obtain ⟨rfl, rfl⟩ := Prod.mk.inj H5
                clear c5 c6 H2 H3 H4 H5 hgr
                go_wp2_with (first | (go_at_call 30; (with_reducible refine (thicketref08_broken.calls 6 (-1) (-1) _ _ _ _ _ rfl).mono ?_); rintro e w9 ⟨rfl, hb⟩; have n1_ := Aside0.mk (below_step (kB0 HB) hb); have mge_ := Aside0.mk (blk_below (kb Bge) hb); have mgr_ := Aside0.mk (blk_below (kb Bgr) hb); clear HB Bge Bgr; have HB := n1_; have Bge := mge_; have Bgr := mgr_; clear n1_ mge_ mgr_; clear hb; have hgr := blk3 (w := w9) Bgr.out))
                refine bodyPost_ret (results_ct rfl _ _ gr 30 #[.int .i64 6, .int .i64 (-1), .int .i64 (-1)] (0, 0) _ rfl (by (with_reducible repeat (first | refine blk_drewN ?_ _ | refine blk_drew ?_ | refine blk_alloc ?_ _)); refine blk_put (cs := #[.int .i64 6, .int .i64 (-1), .int .i64 0]) ?_ 2 _ rfl; (with_reducible repeat (first | refine blk_drewN ?_ _ | refine blk_drew ?_ | refine blk_alloc ?_ _)); refine blk_put (cs := #[.int .i64 6, .int .i64 0, .int .i64 0]) ?_ 1 _ rfl; (with_reducible repeat (first | refine blk_drewN ?_ _ | refine blk_drew ?_ | refine blk_alloc ?_ _)); refine blk_put (cs := #[.int .i64 0, .int .i64 0, .int .i64 0]) ?_ 0 _ rfl; (with_reducible repeat (first | refine blk_drewN ?_ _ | refine blk_drew ?_ | refine blk_alloc ?_ _)); exact Bgr.out) Tryd.underlying30 rfl (by kernel_rfl)) rfl ?_; exact ⟨rfl, kB1 HB Ggr⟩
            · have H3 := H2.out
              unfold c3Head at H3
              rw [if_neg c5] at H3
              obtain ⟨rfl, H4⟩ := Prod.mk.inj H3
              obtain ⟨rfl, H5⟩ := Prod.mk.inj H4
              obtain ⟨rfl, rfl⟩ := Prod.mk.inj H5
              clear H2 H3 H4 H5 hgr
              by_cases c51 : outs < 1
              · have d1 : decide (outs < 1) = true := decide_eq_true c51
                clear c5 c51
                go_wp2_with (first | (go_at_call 30; (with_reducible refine (thicketref08_broken.calls 5 (-1) (-1) _ _ _ _ _ rfl).mono ?_); rintro e w9 ⟨rfl, hb⟩; have n1_ := Aside0.mk (below_step (kB0 HB) hb); have mge_ := Aside0.mk (blk_below (kb Bge) hb); have mgr_ := Aside0.mk (blk_below (kb Bgr) hb); clear HB Bge Bgr; have HB := n1_; have Bge := mge_; have Bgr := mgr_; clear n1_ mge_ mgr_; clear hb; have hgr := blk3 (w := w9) Bgr.out))
                refine bodyPost_ret (results_ct rfl _ _ gr 30 #[.int .i64 5, .int .i64 (-1), .int .i64 (-1)] (0, 0) _ rfl (by (with_reducible repeat (first | refine blk_drewN ?_ _ | refine blk_drew ?_ | refine blk_alloc ?_ _)); refine blk_put (cs := #[.int .i64 5, .int .i64 (-1), .int .i64 0]) ?_ 2 _ rfl; (with_reducible repeat (first | refine blk_drewN ?_ _ | refine blk_drew ?_ | refine blk_alloc ?_ _)); refine blk_put (cs := #[.int .i64 5, .int .i64 0, .int .i64 0]) ?_ 1 _ rfl; (with_reducible repeat (first | refine blk_drewN ?_ _ | refine blk_drew ?_ | refine blk_alloc ?_ _)); refine blk_put (cs := #[.int .i64 0, .int .i64 0, .int .i64 0]) ?_ 0 _ rfl; (with_reducible repeat (first | refine blk_drewN ?_ _ | refine blk_drew ?_ | refine blk_alloc ?_ _)); exact Bgr.out) Tryd.underlying30 rfl (by kernel_rfl)) rfl ?_; exact ⟨rfl, kB1 HB Ggr⟩
              · have d1 : decide (outs < 1) = false := decide_eq_false c51
                have d2 : decide (64 < outs) = true := decide_eq_true (by omega)
                clear c5 c51
                go_wp2_with (first | (go_at_call 30; (with_reducible refine (thicketref08_broken.calls 5 (-1) (-1) _ _ _ _ _ rfl).mono ?_); rintro e w9 ⟨rfl, hb⟩; have n1_ := Aside0.mk (below_step (kB0 HB) hb); have mge_ := Aside0.mk (blk_below (kb Bge) hb); have mgr_ := Aside0.mk (blk_below (kb Bgr) hb); clear HB Bge Bgr; have HB := n1_; have Bge := mge_; have Bgr := mgr_; clear n1_ mge_ mgr_; clear hb; have hgr := blk3 (w := w9) Bgr.out))
                refine bodyPost_ret (results_ct rfl _ _ gr 30 #[.int .i64 5, .int .i64 (-1), .int .i64 (-1)] (0, 0) _ rfl (by (with_reducible repeat (first | refine blk_drewN ?_ _ | refine blk_drew ?_ | refine blk_alloc ?_ _)); refine blk_put (cs := #[.int .i64 5, .int .i64 (-1), .int .i64 0]) ?_ 2 _ rfl; (with_reducible repeat (first | refine blk_drewN ?_ _ | refine blk_drew ?_ | refine blk_alloc ?_ _)); refine blk_put (cs := #[.int .i64 5, .int .i64 0, .int .i64 0]) ?_ 1 _ rfl; (with_reducible repeat (first | refine blk_drewN ?_ _ | refine blk_drew ?_ | refine blk_alloc ?_ _)); refine blk_put (cs := #[.int .i64 0, .int .i64 0, .int .i64 0]) ?_ 0 _ rfl; (with_reducible repeat (first | refine blk_drewN ?_ _ | refine blk_drew ?_ | refine blk_alloc ?_ _)); exact Bgr.out) Tryd.underlying30 rfl (by kernel_rfl)) rfl ?_; exact ⟨rfl, kB1 HB Ggr⟩
          · have cnd : decide (x < (fs.length : Int)) = true := decide_eq_true (by omega)
            have p1 : 0 ≤ x := by omega
            have p2 : x < (fs.length : Int) := by omega
            have hlt : n < fs.length := by omega
            obtain ⟨ad, rfl, e1⟩ := Kd.at_string hfs.out x p1 p2
            replace e1 := (HB.out.cell (World.block_lt_of_cell? w _ e1)).trans e1
            have E1 := Aside0.mk e1
            obtain ⟨s, hss⟩ : ∃ s, s = rdOf ByteArray.empty fs x := ⟨_, rfl⟩
            rw [← hss] at e1 E1
            have SZ := Aside0.mk (show s.size ≤ maxLen from hsz.out s (by
              rw [hss, hxx]
              unfold rdOf
              rw [Int.toNat_natCast, List.getD_eq_getElem?_getD, List.getElem?_eq_getElem hlt]
              exact List.getElem_mem hlt))
            have hkey : Aside0 (keyOf Tryd.prog 9 (.string s) = some (.string s.data.toList)) := ⟨keyOf_string_mk Tryd.underlying9 SZ.out⟩
            obtain ⟨ks, hks⟩ := refName_total s (by have := SZ.out; unfold maxLen at this; omega)
            obtain ⟨c1_, hc1⟩ : ∃ c1_, c1_ = cnt fs (n + 1) s := ⟨_, rfl⟩
            have hcb := cnt_bd fs n s
            have hcs : ∀ t, cnt fs (n + 1) t = cnt fs n t + if s = t then 1 else 0 := fun t => by rw [hss, hxx]; exact cnt_succ fs n hlt t
            have hc11 : c1_ = cnt fs n s + 1 := by rw [hc1, hcs s, if_pos rfl]
            have hstep : featV fs (fs.length - n) n = if (c2Head s c1_).2 = true then some ((c2Head s c1_).1, (n : Int)) else featV fs (fs.length - (n + 1)) (n + 1) := by
              rw [show fs.length - n = (fs.length - (n + 1)) + 1 by omega, hc1, hss, hxx]
              rfl
            have ST := Aside0.mk (hstep.symm.trans hs.out)
            have HLT := Aside0.mk hlt
            have XN := Aside0.mk hxx
            replace p1 := eq_true p1
            replace p2 := eq_true p2
            by_cases z3 : NameB s
            · rw [decide_eq_true z3] at hks
              have KS := Aside0.mk hks
              by_cases z4 : cnt fs n s = 0
              · have HAT := Aside0.mk (show D.atKey (.string s.data.toList) (.lit (.int .i64 0)) = .lit (.int .i64 0) by rw [hat.out s, if_pos z4])
                have hc : c1_ = 1 := by omega
                have ST2 := Aside0.mk (by have h := ST.out; unfold c2Head at h; rw [if_pos z3, if_pos hc] at h; exact h)
                have NAT := Aside0.mk (show ∀ t : ByteArray, (D.put (.string s.data.toList) (.lit (.int .i64 1))).atKey (.string t.data.toList) (.lit (.int .i64 0)) = .lit (.int .i64 (if cnt fs (n + 1) t = 0 then 0 else 1)) by
                  intro t
                  by_cases e : t = s
                  · subst e
                    have hne : cnt fs (n + 1) t ≠ 0 := by have := cnt_bd fs n t; rw [hcs t, if_pos rfl]; omega
                    rw [atKey_put_same hmap.out (key_lit t), if_neg hne]
                  · have h2 : (if s = t then (1 : Int) else 0) = 0 := if_neg (fun h => e h.symm)
                    rw [atKey_put_other (key_ne e), hat.out t, hcs t, h2, Int.add_zero])
                have NMAP := Aside0.mk (hmap.out.put (.string s.data.toList) (.lit (.int .i64 1)))
                clear hxx hnn hend hstep hlt hss hc1 hcb hcs hc11 hks z3 z4 hc ST
                go_wp2_with (first | (go_at_call 29; (with_reducible refine (thicketref03_Name.calls ks s true _ KS.out).mono ?_); rintro e w4 ⟨rfl, hd⟩; have hb := below_drawn0 hd; have n1_ := Aside0.mk (below_step (kB0 HB) hb); have mge_ := Aside0.mk (blk_below (kb Bge) hb); have mgr_ := Aside0.mk (blk_below (kb Bgr) hb); have o1_ := Aside0.mk (hown.out.kept (grown_of_below hb none) (by simp)); clear hown; have hown := o1_; clear o1_; have e2_ := (hb.cell (World.block_lt_of_cell? _ _ E1.out)).trans E1.out; clear e1; clear HB Bge Bgr; have HB := n1_; have Bge := mge_; have Bgr := mgr_; clear n1_ mge_ mgr_; clear hb hd he; have he := blk5 (w := w4) Bge.out) | (at_lookup; refine wpList_lookup_own_int _ rfl _ _ 55 rfl 9 3 .i64 mapLaw Tryd.underlying55 Tryd.underlying3 (zeroInt _) b n _ rfl (own_any hown.out) _ _ rfl hkey.out ?_; intro c2 hat2 hwc; obtain rfl : c2 = 0 := by (have h := hat2.symm.trans HAT.out; injection h with h; injection h with _ h)) | (at_mapUpdate; refine wpList_mapUpdate_own _ rfl _ _ _ 55 rfl 9 3 mapLaw Tryd.underlying55 _ b n _ rfl (own_any hown.out) (by have := hn.out; have := NF.out; unfold maxLen; omega) _ _ _ rfl rfl hkey.out _ [] (plainElem_int Tryd.underlying3 rfl) ?_; intro w5 hown1 hgrow1; have O5 := Aside0.mk hown1; have n1_ := Aside0.mk ((kB0 HB : Below w.heap.size w _).grown hgrow1 (below_size (kB0 HB)) (fun j hj => by cases hj; exact GM.out)); have mge_ := Aside0.mk (blk_grown (kb Bge) hgrow1 (by have := L1.out; intro h_; injection h_; omega)); have mgr_ := Aside0.mk (blk_grown (kb Bgr) hgrow1 (by have := L2.out; intro h_; injection h_; omega)); clear HB Bge Bgr he; have HB := n1_; have Bge := mge_; have Bgr := mgr_; clear n1_ mge_ mgr_ hown1 hgrow1))
                go_roundg k1
                case measure => have := hk.out; omega
                case rel => exact ⟨_, n + 1, _, rfl, ⟨by have := XN.out; have := HLT.out; have := NF.out; unfold wrap64; omega⟩, ST2, ⟨HLT.out⟩, ⟨by have := hk.out; have := HLT.out; omega⟩, ⟨kb Bge⟩, ⟨kb Bgr⟩, ⟨own_any O5.out⟩, NMAP, NAT, ⟨kB0 HB⟩⟩
              · have HAT := Aside0.mk (show D.atKey (.string s.data.toList) (.lit (.int .i64 0)) = .lit (.int .i64 1) by rw [hat.out s, if_neg z4])
                have hc : c1_ ≠ 1 := by omega
                have H2 := H1.out
                have h := ST.out
                unfold c2Head at h
                rw [if_pos z3, if_neg hc] at h
                rw [← h] at H2
                obtain ⟨rfl, H3⟩ := Prod.mk.inj H2
                obtain ⟨rfl, H4⟩ := Prod.mk.inj H3
                obtain ⟨H5, rfl⟩ := Prod.mk.inj H4
                obtain rfl : x = r3 := XN.out.trans H5
                clear hxx hnn hend hstep hlt hss hc1 hcb hcs hc11 hks z3 z4 hc ST h H1 H2 H3 H4 H5 XN
                go_wp2_with (first | (go_at_call 29; (with_reducible refine (thicketref03_Name.calls ks s true _ KS.out).mono ?_); rintro e w4 ⟨rfl, hd⟩; have hb := below_drawn0 hd; have n1_ := Aside0.mk (below_step (kB0 HB) hb); have mge_ := Aside0.mk (blk_below (kb Bge) hb); have mgr_ := Aside0.mk (blk_below (kb Bgr) hb); have o1_ := Aside0.mk (hown.out.kept (grown_of_below hb none) (by simp)); clear hown; have hown := o1_; clear o1_; have e2_ := (hb.cell (World.block_lt_of_cell? _ _ E1.out)).trans E1.out; clear e1; clear HB Bge Bgr; have HB := n1_; have Bge := mge_; have Bgr := mgr_; clear n1_ mge_ mgr_; clear hb hd he; have he := blk5 (w := w4) Bge.out) | (at_lookup; refine wpList_lookup_own_int _ rfl _ _ 55 rfl 9 3 .i64 mapLaw Tryd.underlying55 Tryd.underlying3 (zeroInt _) b n _ rfl (own_any hown.out) _ _ rfl hkey.out ?_; intro c2 hat2 hwc; obtain rfl : c2 = 1 := by (have h := hat2.symm.trans HAT.out; injection h with h; injection h with _ h)) | (go_at_call 30; (with_reducible refine (thicketref08_broken.calls 4 (-1) x _ _ _ _ _ rfl).mono ?_); rintro e w9 ⟨rfl, hb⟩; have n1_ := Aside0.mk (below_step (kB0 HB) hb); have mge_ := Aside0.mk (blk_below (kb Bge) hb); have mgr_ := Aside0.mk (blk_below (kb Bgr) hb); clear HB Bge Bgr; have HB := n1_; have Bge := mge_; have Bgr := mgr_; clear n1_ mge_ mgr_; clear hb; have hgr := blk3 (w := w9) Bgr.out))
                refine bodyPost_ret (results_ct rfl _ _ gr 30 #[.int .i64 4, .int .i64 (-1), .int .i64 x] (0, 0) _ rfl (by (with_reducible repeat (first | refine blk_drewN ?_ _ | refine blk_drew ?_ | refine blk_alloc ?_ _)); refine blk_put (cs := #[.int .i64 4, .int .i64 (-1), .int .i64 0]) ?_ 2 _ rfl; (with_reducible repeat (first | refine blk_drewN ?_ _ | refine blk_drew ?_ | refine blk_alloc ?_ _)); refine blk_put (cs := #[.int .i64 4, .int .i64 0, .int .i64 0]) ?_ 1 _ rfl; (with_reducible repeat (first | refine blk_drewN ?_ _ | refine blk_drew ?_ | refine blk_alloc ?_ _)); refine blk_put (cs := #[.int .i64 0, .int .i64 0, .int .i64 0]) ?_ 0 _ rfl; (with_reducible repeat (first | refine blk_drewN ?_ _ | refine blk_drew ?_ | refine blk_alloc ?_ _)); exact Bgr.out) Tryd.underlying30 rfl (by kernel_rfl)) rfl ?_; exact ⟨rfl, kB1 HB Ggr⟩
            · rw [decide_eq_false z3] at hks
              have KS := Aside0.mk hks
              have H2 := H1.out
              have h := ST.out
              unfold c2Head at h
              rw [if_neg z3] at h
              rw [← h] at H2
              obtain ⟨rfl, H3⟩ := Prod.mk.inj H2
              obtain ⟨rfl, H4⟩ := Prod.mk.inj H3
              obtain ⟨H5, rfl⟩ := Prod.mk.inj H4
              obtain rfl : x = r3 := XN.out.trans H5
              clear hxx hnn hend hstep hlt hss hc1 hcb hcs hc11 hks z3 ST h H1 H2 H3 H4 H5 XN
              go_wp2_with (first | (go_at_call 29; (with_reducible refine (thicketref03_Name.calls ks s false _ KS.out).mono ?_); rintro e w4 ⟨rfl, hd⟩; have hb := below_drawn0 hd; have n1_ := Aside0.mk (below_step (kB0 HB) hb); have mge_ := Aside0.mk (blk_below (kb Bge) hb); have mgr_ := Aside0.mk (blk_below (kb Bgr) hb); have e2_ := (hb.cell (World.block_lt_of_cell? _ _ E1.out)).trans E1.out; clear e1; clear HB Bge Bgr; have HB := n1_; have Bge := mge_; have Bgr := mgr_; clear n1_ mge_ mgr_; clear hb hd he; have he := blk5 (w := w4) Bge.out) | (go_at_call 30; (with_reducible refine (thicketref08_broken.calls 3 (-1) x _ _ _ _ _ rfl).mono ?_); rintro e w9 ⟨rfl, hb⟩; have n1_ := Aside0.mk (below_step (kB0 HB) hb); have mge_ := Aside0.mk (blk_below (kb Bge) hb); have mgr_ := Aside0.mk (blk_below (kb Bgr) hb); clear HB Bge Bgr; have HB := n1_; have Bge := mge_; have Bgr := mgr_; clear n1_ mge_ mgr_; clear hb; have hgr := blk3 (w := w9) Bgr.out))
              refine bodyPost_ret (results_ct rfl _ _ gr 30 #[.int .i64 3, .int .i64 (-1), .int .i64 x] (0, 0) _ rfl (by (with_reducible repeat (first | refine blk_drewN ?_ _ | refine blk_drew ?_ | refine blk_alloc ?_ _)); refine blk_put (cs := #[.int .i64 3, .int .i64 (-1), .int .i64 0]) ?_ 2 _ rfl; (with_reducible repeat (first | refine blk_drewN ?_ _ | refine blk_drew ?_ | refine blk_alloc ?_ _)); refine blk_put (cs := #[.int .i64 3, .int .i64 0, .int .i64 0]) ?_ 1 _ rfl; (with_reducible repeat (first | refine blk_drewN ?_ _ | refine blk_drew ?_ | refine blk_alloc ?_ _)); refine blk_put (cs := #[.int .i64 0, .int .i64 0, .int .i64 0]) ?_ 0 _ rfl; (with_reducible repeat (first | refine blk_drewN ?_ _ | refine blk_drew ?_ | refine blk_alloc ?_ _)); exact Bgr.out) Tryd.underlying30 rfl (by kernel_rfl)) rfl ?_; exact ⟨rfl, kB1 HB Ggr⟩
    · have H1 := H.out
      unfold headV c1Head at H1
      rw [if_pos q1, if_neg q2] at H1
      obtain ⟨rfl, H2⟩ := Prod.mk.inj H1
      obtain ⟨rfl, H3⟩ := Prod.mk.inj H2
      obtain ⟨rfl, rfl⟩ := Prod.mk.inj H3
      clear H H1 H2 H3 hmm
      by_cases q21 : fs.length < 1
      · have d1 : decide ((fs.length : Int) < 1) = true := decide_eq_true (by omega)
        clear q1 q2 q21
        go_enter Tryd.func10, Tryd.ntmps10
        go_wp2_with (first | ((with_reducible refine gate_dst (N := 1) rfl ?_); refine box_event ?hg (N := 1) ?hd (cs := #[.string nm, .slice AF fs.length cF, .int .i64 outs, .slice AB bs.length cB, .slice AT ts.length cT]) (t := 26) ?hr ?_; (case hd => rfl); (case hg => rfl); (case hr => first | (go_simp; done) | (go_simp; rfl)); intro ge hg w1 hbox hb; have n0_ := Aside0.mk (below_step (kB0 HB) hb); skip; have Bge := Aside0.mk hbox; have Gge := Aside0.mk (kg hg (kB0 HB) : w.heap.size ≤ ge); clear HB; have HB := n0_; clear n0_ hb hbox hg; skip) | ((with_reducible refine gate_dst (N := 2) rfl ?_); refine box_event ?hg (N := 2) ?hd (cs := #[.int .i64 0, .int .i64 0, .int .i64 0]) (t := 30) ?hr ?_; (case hd => rfl); (case hg => rfl); (case hr => first | (go_simp; done) | (go_simp; rfl)); intro gr hg w2 hbox hb; have n0_ := Aside0.mk (below_step (kB0 HB) hb); have mge_ := Aside0.mk (blk_below (kb Bge) hb); clear Bge; have Bge := mge_; clear mge_; have Bgr := Aside0.mk hbox; have Ggr := Aside0.mk (kg hg (kB0 HB) : w.heap.size ≤ gr); clear HB; have HB := n0_; clear n0_ hb hbox hg; have he := blk5 (w := w2) Bge.out) | (go_at_call 29; (with_reducible refine (thicketref03_Name.calls kn nm true _ HN.out).mono ?_); rintro e w3 ⟨rfl, hd⟩; have hb := below_drawn0 hd; have n1_ := Aside0.mk (below_step (kB0 HB) hb); have mge_ := Aside0.mk (blk_below (kb Bge) hb); have mgr_ := Aside0.mk (blk_below (kb Bgr) hb); clear HB Bge Bgr; have HB := n1_; have Bge := mge_; have Bgr := mgr_; clear n1_ mge_ mgr_; clear hb hd he; have he := blk5 (w := w3) Bge.out) | (go_at_call 30; (with_reducible refine (thicketref08_broken.calls 2 (-1) (-1) _ _ _ _ _ rfl).mono ?_); rintro e w9 ⟨rfl, hb⟩; have n1_ := Aside0.mk (below_step (kB0 HB) hb); have mge_ := Aside0.mk (blk_below (kb Bge) hb); have mgr_ := Aside0.mk (blk_below (kb Bgr) hb); clear HB Bge Bgr; have HB := n1_; have Bge := mge_; have Bgr := mgr_; clear n1_ mge_ mgr_; clear hb; have hgr := blk3 (w := w9) Bgr.out))
        refine bodyPost_ret (results_ct rfl _ _ gr 30 #[.int .i64 2, .int .i64 (-1), .int .i64 (-1)] (0, 0) _ rfl (by (with_reducible repeat (first | refine blk_drewN ?_ _ | refine blk_drew ?_ | refine blk_alloc ?_ _)); refine blk_put (cs := #[.int .i64 2, .int .i64 (-1), .int .i64 0]) ?_ 2 _ rfl; (with_reducible repeat (first | refine blk_drewN ?_ _ | refine blk_drew ?_ | refine blk_alloc ?_ _)); refine blk_put (cs := #[.int .i64 2, .int .i64 0, .int .i64 0]) ?_ 1 _ rfl; (with_reducible repeat (first | refine blk_drewN ?_ _ | refine blk_drew ?_ | refine blk_alloc ?_ _)); refine blk_put (cs := #[.int .i64 0, .int .i64 0, .int .i64 0]) ?_ 0 _ rfl; (with_reducible repeat (first | refine blk_drewN ?_ _ | refine blk_drew ?_ | refine blk_alloc ?_ _)); exact Bgr.out) Tryd.underlying30 rfl (by kernel_rfl)) rfl ?_; exact ⟨rfl, kB1 HB Ggr⟩
      · have d1 : decide ((fs.length : Int) < 1) = false := decide_eq_false (by omega)
        have d2 : decide (65536 < (fs.length : Int)) = true := decide_eq_true (by omega)
        clear q1 q2 q21
        go_enter Tryd.func10, Tryd.ntmps10
        go_wp2_with (first | ((with_reducible refine gate_dst (N := 1) rfl ?_); refine box_event ?hg (N := 1) ?hd (cs := #[.string nm, .slice AF fs.length cF, .int .i64 outs, .slice AB bs.length cB, .slice AT ts.length cT]) (t := 26) ?hr ?_; (case hd => rfl); (case hg => rfl); (case hr => first | (go_simp; done) | (go_simp; rfl)); intro ge hg w1 hbox hb; have n0_ := Aside0.mk (below_step (kB0 HB) hb); skip; have Bge := Aside0.mk hbox; have Gge := Aside0.mk (kg hg (kB0 HB) : w.heap.size ≤ ge); clear HB; have HB := n0_; clear n0_ hb hbox hg; skip) | ((with_reducible refine gate_dst (N := 2) rfl ?_); refine box_event ?hg (N := 2) ?hd (cs := #[.int .i64 0, .int .i64 0, .int .i64 0]) (t := 30) ?hr ?_; (case hd => rfl); (case hg => rfl); (case hr => first | (go_simp; done) | (go_simp; rfl)); intro gr hg w2 hbox hb; have n0_ := Aside0.mk (below_step (kB0 HB) hb); have mge_ := Aside0.mk (blk_below (kb Bge) hb); clear Bge; have Bge := mge_; clear mge_; have Bgr := Aside0.mk hbox; have Ggr := Aside0.mk (kg hg (kB0 HB) : w.heap.size ≤ gr); clear HB; have HB := n0_; clear n0_ hb hbox hg; have he := blk5 (w := w2) Bge.out) | (go_at_call 29; (with_reducible refine (thicketref03_Name.calls kn nm true _ HN.out).mono ?_); rintro e w3 ⟨rfl, hd⟩; have hb := below_drawn0 hd; have n1_ := Aside0.mk (below_step (kB0 HB) hb); have mge_ := Aside0.mk (blk_below (kb Bge) hb); have mgr_ := Aside0.mk (blk_below (kb Bgr) hb); clear HB Bge Bgr; have HB := n1_; have Bge := mge_; have Bgr := mgr_; clear n1_ mge_ mgr_; clear hb hd he; have he := blk5 (w := w3) Bge.out) | (go_at_call 30; (with_reducible refine (thicketref08_broken.calls 2 (-1) (-1) _ _ _ _ _ rfl).mono ?_); rintro e w9 ⟨rfl, hb⟩; have n1_ := Aside0.mk (below_step (kB0 HB) hb); have mge_ := Aside0.mk (blk_below (kb Bge) hb); have mgr_ := Aside0.mk (blk_below (kb Bgr) hb); clear HB Bge Bgr; have HB := n1_; have Bge := mge_; have Bgr := mgr_; clear n1_ mge_ mgr_; clear hb; have hgr := blk3 (w := w9) Bgr.out))
        refine bodyPost_ret (results_ct rfl _ _ gr 30 #[.int .i64 2, .int .i64 (-1), .int .i64 (-1)] (0, 0) _ rfl (by (with_reducible repeat (first | refine blk_drewN ?_ _ | refine blk_drew ?_ | refine blk_alloc ?_ _)); refine blk_put (cs := #[.int .i64 2, .int .i64 (-1), .int .i64 0]) ?_ 2 _ rfl; (with_reducible repeat (first | refine blk_drewN ?_ _ | refine blk_drew ?_ | refine blk_alloc ?_ _)); refine blk_put (cs := #[.int .i64 2, .int .i64 0, .int .i64 0]) ?_ 1 _ rfl; (with_reducible repeat (first | refine blk_drewN ?_ _ | refine blk_drew ?_ | refine blk_alloc ?_ _)); refine blk_put (cs := #[.int .i64 0, .int .i64 0, .int .i64 0]) ?_ 0 _ rfl; (with_reducible repeat (first | refine blk_drewN ?_ _ | refine blk_drew ?_ | refine blk_alloc ?_ _)); exact Bgr.out) Tryd.underlying30 rfl (by kernel_rfl)) rfl ?_; exact ⟨rfl, kB1 HB Ggr⟩
  · rw [decide_eq_false q1] at hkn
    have HN := Aside0.mk hkn
    clear hkn
    have H1 := H.out
    unfold headV c1Head at H1
    rw [if_neg q1] at H1
    obtain ⟨rfl, H2⟩ := Prod.mk.inj H1
    obtain ⟨rfl, H3⟩ := Prod.mk.inj H2
    obtain ⟨rfl, rfl⟩ := Prod.mk.inj H3
    clear H H1 H2 H3 q1 hmm
    go_enter Tryd.func10, Tryd.ntmps10
    go_wp2_with (first | ((with_reducible refine gate_dst (N := 1) rfl ?_); refine box_event ?hg (N := 1) ?hd (cs := #[.string nm, .slice AF fs.length cF, .int .i64 outs, .slice AB bs.length cB, .slice AT ts.length cT]) (t := 26) ?hr ?_; (case hd => rfl); (case hg => rfl); (case hr => first | (go_simp; done) | (go_simp; rfl)); intro ge hg w1 hbox hb; have n0_ := Aside0.mk (below_step (kB0 HB) hb); skip; have Bge := Aside0.mk hbox; have Gge := Aside0.mk (kg hg (kB0 HB) : w.heap.size ≤ ge); clear HB; have HB := n0_; clear n0_ hb hbox hg; skip) | ((with_reducible refine gate_dst (N := 2) rfl ?_); refine box_event ?hg (N := 2) ?hd (cs := #[.int .i64 0, .int .i64 0, .int .i64 0]) (t := 30) ?hr ?_; (case hd => rfl); (case hg => rfl); (case hr => first | (go_simp; done) | (go_simp; rfl)); intro gr hg w2 hbox hb; have n0_ := Aside0.mk (below_step (kB0 HB) hb); have mge_ := Aside0.mk (blk_below (kb Bge) hb); clear Bge; have Bge := mge_; clear mge_; have Bgr := Aside0.mk hbox; have Ggr := Aside0.mk (kg hg (kB0 HB) : w.heap.size ≤ gr); clear HB; have HB := n0_; clear n0_ hb hbox hg; have he := blk5 (w := w2) Bge.out) | (go_at_call 29; (with_reducible refine (thicketref03_Name.calls kn nm false _ HN.out).mono ?_); rintro e w3 ⟨rfl, hd⟩; have hb := below_drawn0 hd; have n1_ := Aside0.mk (below_step (kB0 HB) hb); have mge_ := Aside0.mk (blk_below (kb Bge) hb); have mgr_ := Aside0.mk (blk_below (kb Bgr) hb); clear HB Bge Bgr; have HB := n1_; have Bge := mge_; have Bgr := mgr_; clear n1_ mge_ mgr_; clear hb hd he; have he := blk5 (w := w3) Bge.out) | (go_at_call 30; (with_reducible refine (thicketref08_broken.calls 1 (-1) (-1) _ _ _ _ _ rfl).mono ?_); rintro e w9 ⟨rfl, hb⟩; have n1_ := Aside0.mk (below_step (kB0 HB) hb); have mge_ := Aside0.mk (blk_below (kb Bge) hb); have mgr_ := Aside0.mk (blk_below (kb Bgr) hb); clear HB Bge Bgr; have HB := n1_; have Bge := mge_; have Bgr := mgr_; clear n1_ mge_ mgr_; clear hb; have hgr := blk3 (w := w9) Bgr.out))
    refine bodyPost_ret (results_ct rfl _ _ gr 30 #[.int .i64 1, .int .i64 (-1), .int .i64 (-1)] (0, 0) _ rfl (by (with_reducible repeat (first | refine blk_drewN ?_ _ | refine blk_drew ?_ | refine blk_alloc ?_ _)); refine blk_put (cs := #[.int .i64 1, .int .i64 (-1), .int .i64 0]) ?_ 2 _ rfl; (with_reducible repeat (first | refine blk_drewN ?_ _ | refine blk_drew ?_ | refine blk_alloc ?_ _)); refine blk_put (cs := #[.int .i64 1, .int .i64 0, .int .i64 0]) ?_ 1 _ rfl; (with_reducible repeat (first | refine blk_drewN ?_ _ | refine blk_drew ?_ | refine blk_alloc ?_ _)); refine blk_put (cs := #[.int .i64 0, .int .i64 0, .int .i64 0]) ?_ 0 _ rfl; (with_reducible repeat (first | refine blk_drewN ?_ _ | refine blk_drew ?_ | refine blk_alloc ?_ _)); exact Bgr.out) Tryd.underlying30 rfl (by kernel_rfl)) rfl ?_; exact ⟨rfl, kB1 HB Ggr⟩
end
end Go.Proofs.YtkemfbocojoagaaDoor.FAll
