/-
  rules.Check: the first rule that an ensemble breaks.
-/
import Derived.Test.YtpeiafamkajedaaDoorRj
namespace Go.Proofs.YtpeiafamkajedaaDoor.FAll
open Go.RowKit Go.Shelf Go.Maps Go.WideMaps Go.Proofs.YtpeiafamkajedaaDoorW.PrintWords Go.Proofs.YtpeiafamkajedaaDoorW.PrintLast Go.Proofs.YtpeiafamkajedaaDoorW.PrintMore
attribute [local go_sem] fstore_walk
set_option linter.unusedVariables false
set_option linter.unusedSimpArgs false
section
variable (nm : ByteArray) (AF : Option Addr) (cF : Nat) (fs : List ByteArray) (outs : Int) (AB : Option Addr) (cB : Nat) (bs : List Int) (AT : Option Addr) (cT : Nat) (ts : List S37)

set_option maxHeartbeats 16000000 in
set_option maxRecDepth 100000 in
theorem rules_Check.calls (sh : S37 → Int × Int) (w : World) (hfs : Aside0 (Kd.C Kd.string w AF fs.length fs)) (hsz : Aside0 (∀ s ∈ fs, s.size ≤ maxLen)) (hbs : Aside0 (Kd.C (Kd.int .i64) w AB bs.length bs)) (hts : Aside0 (Kd.C k37 w AT ts.length ts)) (htab : Aside0 (Tab w))
    (hsh : Aside0 (∀ y ∈ ts, ∃ k, 1 ≤ y.f1.length → trees_Shape.f k y.f0 y.f1 = some ((sh y).1, (sh y).2))) (r1 r2 r3 : Int) (H : Aside0 (checkV sh nm fs outs bs ts = (r1, r2, r3))) :
    Calls Tryd.prog 13 #[.agg #[.string nm, .slice AF fs.length cF, .int .i64 outs, .slice AB bs.length cB, .slice AT ts.length cT]] w fun e w' => e = .returned (.agg #[.int .i64 r1, .int .i64 r2, .int .i64 r3]) ∧ Below w.heap.size w w' := by
  have HB := Aside0.mk (Below.refl w.heap.size w)
  have ht := htab
  have hmm := @run_makeMap Tryd.prog
  by_cases q1 : (c1Head nm fs.length).2 = true
  · have H1 := H.out
    unfold checkV at H1
    rw [if_pos q1] at H1
    obtain ⟨rfl, H2⟩ := Prod.mk.inj H1
    obtain ⟨rfl, rfl⟩ := Prod.mk.inj H2
    clear H1 H2 hmm H
    go_enter Tryd.func13, Tryd.ntmps13
    go_wp2_with (first | ((with_reducible refine gate_dst (N := 1) rfl ?_); refine box_event ?hg (N := 1) ?hd (cs := #[.string nm, .slice AF fs.length cF, .int .i64 outs, .slice AB bs.length cB, .slice AT ts.length cT]) (t := 26) ?hr ?_; (case hd => rfl); (case hg => rfl); (case hr => first | (go_simp; done) | (go_simp; rfl)); intro ge hg w1 hbox hb; have n0_ := Aside0.mk (below_step (kB0 HB) hb); skip; have Bge := Aside0.mk hbox; have Gge := Aside0.mk (kg hg (kB0 HB) : w.heap.size ≤ ge); clear HB; have HB := n0_; clear n0_ hb hbox hg; skip) | ((with_reducible refine gate_dst (N := 2) rfl ?_); refine box_event ?hg (N := 2) ?hd (cs := #[.int .i64 0, .int .i64 0, .int .i64 0]) (t := 49) ?hr ?_; (case hd => rfl); (case hg => rfl); (case hr => first | (go_simp; done) | (go_simp; rfl)); intro gr hg w2 hbox hb; have n0_ := Aside0.mk (below_step (kB0 HB) hb); have mge_ := Aside0.mk (blk_below (kb Bge) hb); clear Bge; have Bge := mge_; clear mge_; have Bgr := Aside0.mk hbox; have Ggr := Aside0.mk (kg hg (kB0 HB) : w.heap.size ≤ gr); clear HB; have HB := n0_; clear n0_ hb hbox hg; skip) | (go_at_call 23; refine (c1_first ge nm AF fs.length cF outs AB bs.length cB AT ts.length cT (w2.heap.size + 1) 2 _ ⟨blk_alloc (blk_alloc Bge.out _) _⟩ ⟨tab_below ht.out (kB0 HB)⟩ ⟨blk_new2 _ _ _⟩).mono ?_; rintro e w4 ⟨rfl, hb⟩; have n1_ := Aside0.mk (below_step (kB0 HB) hb); have m1_ := Aside0.mk (blk_below (blk_alloc (blk_alloc Bge.out _) _) hb); have m2_ := Aside0.mk (blk_below (blk_alloc (blk_alloc Bgr.out _) _) hb); have Bgn := Aside0.mk (blk_below (blk_alloc (blk_new w2 _) _) hb); have Ggn := Aside0.mk (below_size (kB0 HB) : w.heap.size ≤ w2.heap.size); have NE := Aside0.mk (Nat.ne_of_lt (blk_lt Bgr.out) : gr ≠ w2.heap.size); clear HB Bge Bgr; have HB := n1_; have Bge := m1_; have Bgr := m2_; clear n1_ m1_ m2_ hb; have hgn := blk3 (w := w4) Bgn.out; have hgr2 := fun u => blk3 (w := w4.setCell ⟨w2.heap.size, 0, none⟩ u) (blk_far Bgr.out (p := ⟨w2.heap.size, 0, none⟩) NE.out u); have he1_ := blk5 (w := w4) Bge.out; have he2_ := fun o o' => blk5 (w := (w4.alloc o).alloc o') (blk_alloc (blk_alloc Bge.out o) o')))
    refine bodyPost_ret (results_cell_row rfl _ _ gr 49 #[.int .i64 (c1Head nm fs.length).1, .int .i64 (-1), .int .i64 (-1)] (0, 0) _ rfl (by (with_reducible repeat (first | refine blk_drewN ?_ _ | refine blk_drew ?_ | refine blk_alloc ?_ _)); refine blk_put (cs := #[.int .i64 (c1Head nm fs.length).1, .int .i64 (-1), .int .i64 0]) ?_ 2 _ rfl; (with_reducible repeat (first | refine blk_drewN ?_ _ | refine blk_drew ?_ | refine blk_alloc ?_ _)); refine blk_put (cs := #[.int .i64 (c1Head nm fs.length).1, .int .i64 0, .int .i64 0]) ?_ 1 _ rfl; (with_reducible repeat (first | refine blk_drewN ?_ _ | refine blk_drew ?_ | refine blk_alloc ?_ _)); refine blk_put (cs := #[.int .i64 0, .int .i64 0, .int .i64 0]) ?_ 0 _ rfl; (with_reducible repeat (first | refine blk_drewN ?_ _ | refine blk_drew ?_ | refine blk_alloc ?_ _)); refine blk_far ?_ (p := ⟨w2.heap.size, 0, none⟩) NE.out _; (with_reducible repeat (first | refine blk_drewN ?_ _ | refine blk_drew ?_ | refine blk_alloc ?_ _)); exact Bgr.out) Tryd.underlying49 rfl (by kernel_rfl)) rfl ?_; exact ⟨rfl, kB2 HB Ggr Ggn⟩
  · have q1' : (c1Head nm fs.length).2 = false := by simpa using q1
    have NF := Aside0.mk (show 1 ≤ fs.length ∧ fs.length ≤ 65536 by
      have h := q1'
      unfold c1Head at h
      split at h
      · split at h
        · assumption
        · cases h
      · cases h)
    have H1 := Aside0.mk (show featTail sh fs outs bs ts = (r1, r2, r3) by have h := H.out; unfold checkV at h; rwa [if_neg q1] at h)
    clear q1 H
    go_enter Tryd.func13, Tryd.ntmps13
    go_wp2_with (first | ((with_reducible refine gate_dst (N := 1) rfl ?_); refine box_event ?hg (N := 1) ?hd (cs := #[.string nm, .slice AF fs.length cF, .int .i64 outs, .slice AB bs.length cB, .slice AT ts.length cT]) (t := 26) ?hr ?_; (case hd => rfl); (case hg => rfl); (case hr => first | (go_simp; done) | (go_simp; rfl)); intro ge hg w1 hbox hb; have n0_ := Aside0.mk (below_step (kB0 HB) hb); skip; have Bge := Aside0.mk hbox; have Gge := Aside0.mk (kg hg (kB0 HB) : w.heap.size ≤ ge); clear HB; have HB := n0_; clear n0_ hb hbox hg; skip) | ((with_reducible refine gate_dst (N := 2) rfl ?_); refine box_event ?hg (N := 2) ?hd (cs := #[.int .i64 0, .int .i64 0, .int .i64 0]) (t := 49) ?hr ?_; (case hd => rfl); (case hg => rfl); (case hr => first | (go_simp; done) | (go_simp; rfl)); intro gr hg w2 hbox hb; have n0_ := Aside0.mk (below_step (kB0 HB) hb); have mge_ := Aside0.mk (blk_below (kb Bge) hb); clear Bge; have Bge := mge_; clear mge_; have Bgr := Aside0.mk hbox; have Ggr := Aside0.mk (kg hg (kB0 HB) : w.heap.size ≤ gr); clear HB; have HB := n0_; clear n0_ hb hbox hg; skip) | (go_at_call 23; refine (c1_first ge nm AF fs.length cF outs AB bs.length cB AT ts.length cT (w2.heap.size + 1) 2 _ ⟨blk_alloc (blk_alloc Bge.out _) _⟩ ⟨tab_below ht.out (kB0 HB)⟩ ⟨blk_new2 _ _ _⟩).mono ?_; rintro e w4 ⟨rfl, hb⟩; have n1_ := Aside0.mk (below_step (kB0 HB) hb); have m1_ := Aside0.mk (blk_below (blk_alloc (blk_alloc Bge.out _) _) hb); have m2_ := Aside0.mk (blk_below (blk_alloc (blk_alloc Bgr.out _) _) hb); have Bgn := Aside0.mk (blk_below (blk_alloc (blk_new w2 _) _) hb); have Ggn := Aside0.mk (below_size (kB0 HB) : w.heap.size ≤ w2.heap.size); have NE := Aside0.mk (Nat.ne_of_lt (blk_lt Bgr.out) : gr ≠ w2.heap.size); clear HB Bge Bgr; have HB := n1_; have Bge := m1_; have Bgr := m2_; clear n1_ m1_ m2_ hb; have hgn := blk3 (w := w4) Bgn.out; have hgr2 := fun u => blk3 (w := w4.setCell ⟨w2.heap.size, 0, none⟩ u) (blk_far Bgr.out (p := ⟨w2.heap.size, 0, none⟩) NE.out u); have he1_ := blk5 (w := w4) Bge.out; have he2_ := fun o o' => blk5 (w := (w4.alloc o).alloc o') (blk_alloc (blk_alloc Bge.out o) o')))
    clear hgn hgr2
    have GM := Aside0.mk (below_size (kB0 HB) : w.heap.size ≤ w4.heap.size)
    have L1 := Aside0.mk (blk_lt Bge.out : ge < w4.heap.size)
    have L2 := Aside0.mk (blk_lt Bgr.out : gr < w4.heap.size)
    have L3 := Aside0.mk (blk_lt Bgn.out : w2.heap.size < w4.heap.size)
    clear he1_ he2_ hmm q1'
    go_loopg [38] (fs.length + 1) (fun kq v38 w' => ∃ (x : Int) (n : Nat) (D : DataW Unit), v38 = .int .i64 x ∧ Aside0 (x = n) ∧ Aside0 (featV fs (fs.length - n) n = featV fs fs.length 0) ∧ Aside0 (n ≤ fs.length) ∧ Aside0 (fs.length - n < kq) ∧ Aside0 (w'.heap[ge]? = some (.cells #[.string nm, .slice AF fs.length cF, .int .i64 outs, .slice AB bs.length cB, .slice AT ts.length cT] 26 (0, 0))) ∧ Aside0 (w'.heap[gr]? = some (.cells #[.int .i64 0, .int .i64 0, .int .i64 0] 49 (0, 0))) ∧ Aside0 (w'.heap[w2.heap.size]? = some (.cells #[.int .i64 0, .int .i64 (-1), .int .i64 (-1)] 49 (0, 0))) ∧ Aside0 (w'.heap[w4.heap.size + 1]? = some (.cells #[.map (some w4.heap.size)] 75 (0, 0))) ∧ Aside0 (w'.ownsMap Tryd.prog 9 (plainElem Tryd.prog 3) w4.heap.size n D) ∧ Aside0 (IsMap D) ∧ Aside0 (∀ s : ByteArray, D.atKey (.string s.data.toList) (.lit (.int .i64 0)) = .lit (.int .i64 (cnt fs n s))) ∧ Aside0 (Below w.heap.size w w'))
    case atStart => exact ⟨0, 0, .map [], rfl, ⟨rfl⟩, ⟨rfl⟩, ⟨Nat.zero_le _⟩, ⟨by omega⟩, ⟨kb Bge⟩, ⟨kb Bgr⟩, ⟨kb Bgn⟩, ⟨blk_new2 w4 _ _⟩, ⟨(World.ownsMap_made w4 _ _ _).alloc _⟩, ⟨isMap_empty⟩, ⟨fun s => rfl⟩, ⟨kB0 HB⟩⟩
    case round =>
      clear HB Bge Bgr Bgn
      obtain ⟨x, n, D, rfl, hx, hs, hn, hk, Bge, Bgr, Bgn, Bgm, hown, hmap, hat, HB⟩ := hrel
      cases gk with
      | zero => exact absurd hk.out (by omega)
      | succ k1 =>
        have he := blk5 (w := wr) Bge.out
        have hxx := hx.out
        have hnn := hn.out
        by_cases hend : n = fs.length
        · have cnd : decide (x < (fs.length : Int)) = false := decide_eq_false (by omega)
          have hnone : featV fs fs.length 0 = none := by rw [← hs.out, hend, Nat.sub_self]; rfl
          have H2 := Aside0.mk (show c3Tail sh fs outs bs ts = (r1, r2, r3) by have h := H1.out; unfold featTail at h; rw [hnone] at h; exact h)
          clear hxx hnn hend hnone hs hx hn hk hown hmap hat H1
          by_cases q3 : (c3Head outs bs.length ts.length).2 = true
          · have H3 := H2.out
            unfold c3Tail at H3
            rw [if_pos q3] at H3
            obtain ⟨rfl, H4⟩ := Prod.mk.inj H3
            obtain ⟨rfl, rfl⟩ := Prod.mk.inj H4
            clear H3 H4 H2
            go_wp2_with (first | (go_at_call 23; refine (c3_first ge nm AF fs.length cF outs AB bs.length cB AT ts.length cT wr.heap.size 3 _ ⟨blk_alloc Bge.out _⟩ ⟨blk_new _ _⟩).mono ?_; rintro e w5 ⟨rfl, hb⟩; have n1_ := Aside0.mk (below_step (kB0 HB) hb); have mge_ := Aside0.mk (blk_below (kb Bge) hb); have mgr_ := Aside0.mk (blk_below (kb Bgr) hb); have mgn_ := Aside0.mk (blk_below (kb Bgn) hb); clear HB Bge Bgr Bgn; have HB := n1_; have Bge := mge_; have Bgr := mgr_; have Bgn := mgn_; clear n1_ mge_ mgr_ mgn_; clear hb he; have hgn := blk3 (w := w5) Bgn.out; have hgr2 := fun u => blk3 (w := w5.setCell ⟨w2.heap.size, 0, none⟩ u) (blk_far Bgr.out (p := ⟨w2.heap.size, 0, none⟩) NE.out u); have he := blk5 (w := w5) Bge.out))
            refine bodyPost_ret (results_cell_row rfl _ _ gr 49 #[.int .i64 (c3Head outs bs.length ts.length).1, .int .i64 (-1), .int .i64 (-1)] (0, 0) _ rfl (by (with_reducible repeat (first | refine blk_drewN ?_ _ | refine blk_drew ?_ | refine blk_alloc ?_ _)); refine blk_put (cs := #[.int .i64 (c3Head outs bs.length ts.length).1, .int .i64 (-1), .int .i64 0]) ?_ 2 _ rfl; (with_reducible repeat (first | refine blk_drewN ?_ _ | refine blk_drew ?_ | refine blk_alloc ?_ _)); refine blk_put (cs := #[.int .i64 (c3Head outs bs.length ts.length).1, .int .i64 0, .int .i64 0]) ?_ 1 _ rfl; (with_reducible repeat (first | refine blk_drewN ?_ _ | refine blk_drew ?_ | refine blk_alloc ?_ _)); refine blk_put (cs := #[.int .i64 0, .int .i64 0, .int .i64 0]) ?_ 0 _ rfl; (with_reducible repeat (first | refine blk_drewN ?_ _ | refine blk_drew ?_ | refine blk_alloc ?_ _)); refine blk_far ?_ (p := ⟨w2.heap.size, 0, none⟩) NE.out _; (with_reducible repeat (first | refine blk_drewN ?_ _ | refine blk_drew ?_ | refine blk_alloc ?_ _)); exact Bgr.out) Tryd.underlying49 rfl (by kernel_rfl)) rfl ?_; exact ⟨rfl, kB2 HB Ggr Ggn⟩
          · have q3' : (c3Head outs bs.length ts.length).2 = false := by simpa using q3
            have O3 := Aside0.mk (show 1 ≤ outs ∧ outs ≤ 64 ∧ (bs.length : Int) = outs ∧ ts.length ≤ 65536 by
              have h := q3'
              unfold c3Head at h
              split at h
              · split at h
                · split at h
                  · refine ⟨?_, ?_, ?_, ?_⟩ <;> omega
                  · cases h
                · cases h
              · cases h)
            have H3 := Aside0.mk (show treesTail sh fs outs bs ts = (r1, r2, r3) by have h := H2.out; unfold c3Tail at h; rwa [if_neg q3] at h)
            clear q3 H2
            go_wp2_with (first | (go_at_call 23; refine (c3_first ge nm AF fs.length cF outs AB bs.length cB AT ts.length cT wr.heap.size 3 _ ⟨blk_alloc Bge.out _⟩ ⟨blk_new _ _⟩).mono ?_; rintro e w5 ⟨rfl, hb⟩; have n1_ := Aside0.mk (below_step (kB0 HB) hb); have mge_ := Aside0.mk (blk_below (kb Bge) hb); have mgr_ := Aside0.mk (blk_below (kb Bgr) hb); have mgn_ := Aside0.mk (blk_below (kb Bgn) hb); clear HB Bge Bgr Bgn; have HB := n1_; have Bge := mge_; have Bgr := mgr_; have Bgn := mgn_; clear n1_ mge_ mgr_ mgn_; clear hb he; have hgn := blk3 (w := w5) Bgn.out; have hgr2 := fun u => blk3 (w := w5.setCell ⟨w2.heap.size, 0, none⟩ u) (blk_far Bgr.out (p := ⟨w2.heap.size, 0, none⟩) NE.out u); have he := blk5 (w := w5) Bge.out))
            clear he hgn hgr2
            go_loopg [79] (ts.length + 1) (fun kq v79 w' => ∃ (x : Int) (n : Nat), v79 = .int .i64 x ∧ Aside0 (x = n) ∧ Aside0 (treesV sh fs.length outs ts (ts.length - n) n = treesV sh fs.length outs ts ts.length 0) ∧ Aside0 (n ≤ ts.length) ∧ Aside0 (ts.length - n < kq) ∧ Aside0 (w'.heap[ge]? = some (.cells #[.string nm, .slice AF fs.length cF, .int .i64 outs, .slice AB bs.length cB, .slice AT ts.length cT] 26 (0, 0))) ∧ Aside0 (w'.heap[gr]? = some (.cells #[.int .i64 0, .int .i64 0, .int .i64 0] 49 (0, 0))) ∧ Aside0 (Below w.heap.size w w'))
            case atStart => exact ⟨0, 0, rfl, ⟨rfl⟩, ⟨rfl⟩, ⟨Nat.zero_le _⟩, ⟨by omega⟩, ⟨kb Bge⟩, ⟨kb Bgr⟩, ⟨kB0 HB⟩⟩
            case round =>
              clear HB Bge Bgr Bgn Bgm q3'
              obtain ⟨x, n, rfl, hx, hs, hn, hk, Bge, Bgr, HB⟩ := hrel
              cases gk with
              | zero => exact absurd hk.out (by omega)
              | succ k2 =>
                have he := blk5 (w := wr) Bge.out
                have hxx := hx.out
                have hnn := hn.out
                by_cases hend : n = ts.length
                · have cnd : decide (x < (ts.length : Int)) = false := decide_eq_false (by omega)
                  have hnone : treesV sh fs.length outs ts ts.length 0 = none := by rw [← hs.out, hend, Nat.sub_self]; rfl
                  have H4 := Aside0.mk (show sumsTail bs ts = (r1, r2, r3) by have h := H3.out; unfold treesTail at h; rw [hnone] at h; exact h)
                  clear hxx hnn hend hnone hs hx hn hk H3
                  obtain ⟨q, hq⟩ : ∃ q, q = roomsL bs ts := ⟨_, rfl⟩
                  have QL := Aside0.mk (show q.length = bs.length by rw [hq]; exact roomsL_length bs ts)
                  have H5 := Aside0.mk (show (match sumsV q bs.length 0 with | some k => ((31 : Int), (-1 : Int), k) | none => (0, 0, 0)) = (r1, r2, r3) by rw [hq]; exact H4.out)
                  have HQ := Aside0.mk hq
                  clear hq H4
                  go_wp2_with (first | (go_at_call 33; refine (limbs_From.calls 4611686018427387904 _).mono ?_; rintro e w6 ⟨Am, km, rfl, hc, hkq, hwh, hb⟩; have MC := Aside0.mk (show Kd.C (Kd.int .u32) w6 Am mostL.length mostL from hc); have MK := Aside0.mk (show mostL.length ≤ km from Nat.le_of_eq hkq.symm); have n1_ := Aside0.mk (below_step (kB0 HB) hb); have mge_ := Aside0.mk (blk_below (kb Bge) hb); have mgr_ := Aside0.mk (blk_below (kb Bgr) hb); clear HB Bge Bgr; have HB := n1_; have Bge := mge_; have Bgr := mgr_; clear n1_ mge_ mgr_; clear hb hc hkq hwh he; have he := blk5 (w := w6) Bge.out) | (go_at_call 34; refine (rules_rooms.calls nm AF fs.length cF outs AB cB bs AT cT ts _ ⟨Kd.C_below hbs.out (kB0 HB)⟩ ⟨Kd.C_below hts.out (kB0 HB)⟩ ⟨by have := O3.out; omega⟩ ⟨by have := O3.out; omega⟩).mono ?_; rintro e w7 ⟨vq, rfl, hq, hb⟩; have mc_ := Aside0.mk (Kd.C_below MC.out hb); rw [← HQ.out] at hq; have HO := Aside0.mk hq; have n1_ := Aside0.mk (below_step (kB0 HB) hb); have mge_ := Aside0.mk (blk_below (kb Bge) hb); have mgr_ := Aside0.mk (blk_below (kb Bgr) hb); clear HB Bge Bgr; have HB := n1_; have Bge := mge_; have Bgr := mgr_; clear n1_ mge_ mgr_; clear MC; have MC := mc_; clear mc_ hb hq he; have he := blk5 (w := w7) Bge.out))
                  obtain ⟨Ao, co, eo⟩ := Kd.R_slice HO.out
                  subst eo
                  obtain ⟨base, hbase⟩ : ∃ base, base = w6.heap.size := ⟨_, rfl⟩
                  rw [← hbase] at HO
                  clear hbase he
                  go_loopg [102] (bs.length + 1) (fun kq v102 w' => ∃ (x : Int) (n : Nat), v102 = .int .i64 x ∧ Aside0 (x = n) ∧ Aside0 (sumsV q (bs.length - n) n = sumsV q bs.length 0) ∧ Aside0 (n ≤ bs.length) ∧ Aside0 (bs.length - n < kq) ∧ Aside0 (w'.heap[gr]? = some (.cells #[.int .i64 0, .int .i64 0, .int .i64 0] 49 (0, 0))) ∧ Aside0 (Kd.R trimmed 78 w' base (fun _ => True) (.slice Ao q.length co) q) ∧ Aside0 (Kd.C (Kd.int .u32) w' Am mostL.length mostL) ∧ Aside0 (Below w.heap.size w w'))
                  case atStart => exact ⟨0, 0, rfl, ⟨rfl⟩, ⟨rfl⟩, ⟨Nat.zero_le _⟩, ⟨by omega⟩, ⟨kb Bgr⟩, ⟨kR HO⟩, MC, ⟨kB0 HB⟩⟩
                  case round =>
                    clear HB Bge Bgr HO MC
                    obtain ⟨x, n, rfl, hx, hs, hn, hk, Bgr, HO, MC, HB⟩ := hrel
                    cases gk with
                    | zero => exact absurd hk.out (by omega)
                    | succ k3 =>
                      have hxx := hx.out
                      have hnn := hn.out
                      have hoo := O3.out
                      have hgr := blk3 (w := wr) Bgr.out
                      by_cases hend : n = bs.length
                      · have cnd : decide (x < outs) = false := decide_eq_false (by omega)
                        have hnone : sumsV q bs.length 0 = none := by rw [← hs.out, hend, Nat.sub_self]; rfl
                        have H6 := H5.out
                        rw [hnone] at H6
                        obtain ⟨rfl, H7⟩ := Prod.mk.inj H6
                        obtain ⟨rfl, rfl⟩ := Prod.mk.inj H7
                        clear hxx hnn hoo hend hnone hs hx hn hk H5 H6 H7
                        go_wp2
                        refine bodyPost_ret (results_cell_row rfl _ _ gr 49 #[.int .i64 0, .int .i64 0, .int .i64 0] (0, 0) _ rfl (by (with_reducible repeat (first | refine blk_drewN ?_ _ | refine blk_drew ?_ | refine blk_alloc ?_ _)); refine blk_put (cs := #[.int .i64 0, .int .i64 0, .int .i64 0]) ?_ 2 _ rfl; (with_reducible repeat (first | refine blk_drewN ?_ _ | refine blk_drew ?_ | refine blk_alloc ?_ _)); refine blk_put (cs := #[.int .i64 0, .int .i64 0, .int .i64 0]) ?_ 1 _ rfl; (with_reducible repeat (first | refine blk_drewN ?_ _ | refine blk_drew ?_ | refine blk_alloc ?_ _)); refine blk_put (cs := #[.int .i64 0, .int .i64 0, .int .i64 0]) ?_ 0 _ rfl; (with_reducible repeat (first | refine blk_drewN ?_ _ | refine blk_drew ?_ | refine blk_alloc ?_ _)); exact Bgr.out) Tryd.underlying49 rfl (by kernel_rfl)) rfl ?_; exact ⟨rfl, kB1 HB Ggr⟩
                      · have cnd : decide (x < outs) = true := decide_eq_true (by omega)
                        have p1 : 0 ≤ x := by omega
                        have ql := QL.out
                        have hlt : n < q.length := by omega
                        have p2 : x < (q.length : Int) := by omega
                        obtain ⟨g, cap, hv, hwg, hgl, cells, hcell⟩ := Kd.R_form HO.out (by omega)
                        injection hv with hv1 hv2 hv3
                        subst hv1
                        obtain ⟨ec, hecl, hecM, hecc, hecf⟩ := Kd.R_elem HO.out [] x p1 p2
                        obtain ⟨Aq, kq, rfl, hqk, hqC, hqw⟩ := hecM
                        have ce : wr.cell? ⟨g, x.toNat, none⟩ = some (.slice Aq (q.getD x.toNat []).length kq) := by
                          have h := hecc 0 _ rfl
                          rw [show x.toNat * trimmed.sz + 0 = x.toNat from Nat.mul_one _] at h
                          exact h
                        have ex : x.toNat = n := by omega
                        rw [ex] at hqk hqC ce
                        obtain ⟨qi, hqi⟩ : ∃ qi, qi = q.getD n [] := ⟨_, rfl⟩
                        rw [← hqi] at ce hqk hqC
                        rw [← ex] at ce
                        obtain ⟨v, hv⟩ : ∃ v, v = cmpL (strip qi) (strip mostL) := ⟨_, rfl⟩
                        have HV := Aside0.mk hv.symm
                        have hstep : sumsV q (bs.length - n) n = if 0 ≤ v then some (n : Int) else sumsV q (bs.length - (n + 1)) (n + 1) := by
                          rw [show bs.length - n = (bs.length - (n + 1)) + 1 by omega, hv, hqi]
                          rfl
                        have ST := Aside0.mk (hstep.symm.trans hs.out)
                        have QC := Aside0.mk hqC
                        have QK := Aside0.mk (Nat.le_of_eq hqk.symm : qi.length ≤ kq)
                        have HLT := Aside0.mk (show n < bs.length by omega)
                        have XN := Aside0.mk hxx
                        replace p1 := eq_true p1
                        replace p2 := eq_true p2
                        clear hxx hnn hoo hend hstep hqC hqk hqw hecc hecf hecl hv hqi ex ql hlt hcell cells hv2 hv3 hwg hgl
                        by_cases z : 0 ≤ v
                        · have d1 : decide (0 ≤ v) = true := decide_eq_true z
                          have H6 := H5.out
                          rw [← ST.out, if_pos z] at H6
                          obtain ⟨rfl, H7⟩ := Prod.mk.inj H6
                          obtain ⟨rfl, H8⟩ := Prod.mk.inj H7
                          obtain rfl : x = r3 := XN.out.trans H8
                          clear z H5 H6 H7 H8 XN
                          go_wp2_with (first | (go_at_call 35; refine (limbs_Cmp.calls Aq kq qi Am km mostL _ QC QK MC MK v HV).mono ?_; rintro e w8 ⟨rfl, ⟨⟨nd, rfl⟩⟩⟩))
                          refine bodyPost_ret (results_cell_row rfl _ _ gr 49 #[.int .i64 31, .int .i64 (-1), .int .i64 x] (0, 0) _ rfl (by (with_reducible repeat (first | refine blk_drewN ?_ _ | refine blk_drew ?_ | refine blk_alloc ?_ _)); refine blk_put (cs := #[.int .i64 31, .int .i64 (-1), .int .i64 0]) ?_ 2 _ rfl; (with_reducible repeat (first | refine blk_drewN ?_ _ | refine blk_drew ?_ | refine blk_alloc ?_ _)); refine blk_put (cs := #[.int .i64 31, .int .i64 0, .int .i64 0]) ?_ 1 _ rfl; (with_reducible repeat (first | refine blk_drewN ?_ _ | refine blk_drew ?_ | refine blk_alloc ?_ _)); refine blk_put (cs := #[.int .i64 0, .int .i64 0, .int .i64 0]) ?_ 0 _ rfl; (with_reducible repeat (first | refine blk_drewN ?_ _ | refine blk_drew ?_ | refine blk_alloc ?_ _)); exact Bgr.out) Tryd.underlying49 rfl (by kernel_rfl)) rfl ?_; exact ⟨rfl, kB1 HB Ggr⟩
                        · have d1 : decide (0 ≤ v) = false := decide_eq_false z
                          have ST2 := Aside0.mk (by have h := ST.out; rw [if_neg z] at h; exact h)
                          clear z ST
                          go_wp2_with (first | (go_at_call 35; refine (limbs_Cmp.calls Aq kq qi Am km mostL _ QC QK MC MK v HV).mono ?_; rintro e w8 ⟨rfl, ⟨⟨nd, rfl⟩⟩⟩))
                          go_roundg k3
                          case measure => have := hk.out; omega
                          case rel => exact ⟨_, n + 1, rfl, ⟨by have := XN.out; have := HLT.out; have := O3.out; unfold wrap64; omega⟩, ST2, ⟨HLT.out⟩, ⟨by have := hk.out; have := HLT.out; omega⟩, ⟨kb Bgr⟩, ⟨kR HO⟩, ⟨Kd.C_drewN MC.out _⟩, ⟨kB0 HB⟩⟩
                · have cnd : decide (x < (ts.length : Int)) = true := decide_eq_true (by omega)
                  have p1 : 0 ≤ x := by omega
                  have p2 : x < (ts.length : Int) := by omega
                  have hlt : n < ts.length := by omega
                  obtain ⟨ad, A1, c1, rfl, e0, e1, l1, g1⟩ := at_T37 hts.out x p1 p2
                  obtain ⟨y, hy⟩ : ∃ y, y = rd_T37 ts x := ⟨_, rfl⟩
                  rw [← hy] at e0 e1 l1 g1
                  replace e0 := (HB.out.cell (World.block_lt_of_cell? w _ e0)).trans e0
                  replace e1 := (HB.out.cell (World.block_lt_of_cell? w _ e1)).trans e1
                  have hmem : y ∈ ts := by
                    rw [hy, hxx]
                    unfold rd_T37
                    rw [Int.toNat_natCast, List.getD_eq_getElem?_getD, List.getElem?_eq_getElem hlt]
                    exact List.getElem_mem hlt
                  obtain ⟨ky, hky⟩ := hsh.out y hmem
                  obtain ⟨v1, hv1⟩ : ∃ v1, v1 = (treeV fs.length outs y.f0 y.f1 (sh y)).1 := ⟨_, rfl⟩
                  obtain ⟨v2, hv2⟩ : ∃ v2, v2 = (treeV fs.length outs y.f0 y.f1 (sh y)).2 := ⟨_, rfl⟩
                  have HV := Aside0.mk (show treeV fs.length outs y.f0 y.f1 ((sh y).1, (sh y).2) = (v1, v2) by rw [hv1, hv2])
                  have hstep : treesV sh fs.length outs ts (ts.length - n) n = if v1 = 0 then treesV sh fs.length outs ts (ts.length - (n + 1)) (n + 1) else some (v1, (n : Int), v2) := by
                    rw [show ts.length - n = (ts.length - (n + 1)) + 1 by omega, hv1, hv2, hy, hxx]
                    rfl
                  have ST := Aside0.mk (hstep.symm.trans hs.out)
                  have KY := Aside0.mk hky
                  have G1 := Aside0.mk g1
                  have L1t := Aside0.mk l1
                  have HLT := Aside0.mk hlt
                  have XN := Aside0.mk hxx
                  have he2 := fun o => blk5 (w := wr.alloc o) (blk_alloc Bge.out o)
                  replace p1 := eq_true p1
                  replace p2 := eq_true p2
                  clear hxx hnn hend hstep hky g1 l1 hlt hy hmem hv1 hv2 he
                  by_cases z : v1 = 0
                  · have d1 : (v1 == 0) = true := beq_iff_eq.mpr z
                    have d2 : (v1 != 0) = false := bne_eq_false_iff_eq.mpr z
                    have ST2 := Aside0.mk (by have h := ST.out; rw [if_pos z] at h; exact h)
                    clear z ST
                    go_wp2_with (first | (go_at_call 32; refine (rules_tree.calls nm AF fs.length cF outs AB bs.length cB (some ad) ts.length cT y.f0 A1 c1 y.f1 _ ⟨Kd.C_below G1.out (kB0 HB)⟩ L1t ky (sh y).1 (sh y).2 KY v1 v2 HV).mono ?_; rintro e w6 ⟨rfl, hb⟩; have n1_ := Aside0.mk (below_step (kB0 HB) hb); have mge_ := Aside0.mk (blk_below (kb Bge) hb); have mgr_ := Aside0.mk (blk_below (kb Bgr) hb); clear HB Bge Bgr; have HB := n1_; have Bge := mge_; have Bgr := mgr_; clear n1_ mge_ mgr_; clear hb he2; have hgr := blk3 (w := w6) Bgr.out))
                    go_roundg k2
                    case measure => have := hk.out; omega
                    case rel => exact ⟨_, n + 1, rfl, ⟨by have := XN.out; have := HLT.out; have := O3.out; unfold wrap64; omega⟩, ST2, ⟨HLT.out⟩, ⟨by have := hk.out; have := HLT.out; omega⟩, ⟨kb Bge⟩, ⟨kb Bgr⟩, ⟨kB0 HB⟩⟩
                  · have d1 : (v1 == 0) = false := beq_eq_false_iff_ne.mpr z
                    have d2 : (v1 != 0) = true := bne_iff_ne.mpr z
                    have H4 := H3.out
                    unfold treesTail at H4
                    rw [← ST.out, if_neg z] at H4
                    obtain ⟨rfl, H5⟩ := Prod.mk.inj H4
                    obtain ⟨H6, rfl⟩ := Prod.mk.inj H5
                    obtain rfl : x = r2 := XN.out.trans H6
                    clear z H3 H4 H5 H6 XN
                    go_wp2_with (first | (go_at_call 32; refine (rules_tree.calls nm AF fs.length cF outs AB bs.length cB (some ad) ts.length cT y.f0 A1 c1 y.f1 _ ⟨Kd.C_below G1.out (kB0 HB)⟩ L1t ky (sh y).1 (sh y).2 KY v1 v2 HV).mono ?_; rintro e w6 ⟨rfl, hb⟩; have n1_ := Aside0.mk (below_step (kB0 HB) hb); have mge_ := Aside0.mk (blk_below (kb Bge) hb); have mgr_ := Aside0.mk (blk_below (kb Bgr) hb); clear HB Bge Bgr; have HB := n1_; have Bge := mge_; have Bgr := mgr_; clear n1_ mge_ mgr_; clear hb he2; have hgr := blk3 (w := w6) Bgr.out))
                    refine bodyPost_ret (results_cell_row rfl _ _ gr 49 #[.int .i64 v1, .int .i64 x, .int .i64 v2] (0, 0) _ rfl (by (with_reducible repeat (first | refine blk_drewN ?_ _ | refine blk_drew ?_ | refine blk_alloc ?_ _)); refine blk_put (cs := #[.int .i64 v1, .int .i64 x, .int .i64 0]) ?_ 2 _ rfl; (with_reducible repeat (first | refine blk_drewN ?_ _ | refine blk_drew ?_ | refine blk_alloc ?_ _)); refine blk_put (cs := #[.int .i64 v1, .int .i64 0, .int .i64 0]) ?_ 1 _ rfl; (with_reducible repeat (first | refine blk_drewN ?_ _ | refine blk_drew ?_ | refine blk_alloc ?_ _)); refine blk_put (cs := #[.int .i64 0, .int .i64 0, .int .i64 0]) ?_ 0 _ rfl; (with_reducible repeat (first | refine blk_drewN ?_ _ | refine blk_drew ?_ | refine blk_alloc ?_ _)); exact Bgr.out) Tryd.underlying49 rfl (by kernel_rfl)) rfl ?_; exact ⟨rfl, kB1 HB Ggr⟩
        · have cnd : decide (x < (fs.length : Int)) = true := decide_eq_true (by omega)
          have p1 : 0 ≤ x := by omega
          have p2 : x < (fs.length : Int) := by omega
          have hlt : n < fs.length := by omega
          obtain ⟨ad, rfl, e1⟩ := Kd.at_string hfs.out x p1 p2
          replace e1 := (HB.out.cell (World.block_lt_of_cell? w _ e1)).trans e1
          obtain ⟨s, hss⟩ : ∃ s, s = rdOf ByteArray.empty fs x := ⟨_, rfl⟩
          rw [← hss] at e1
          have SZ := Aside0.mk (show s.size ≤ maxLen from hsz.out s (by
            rw [hss, hxx]
            unfold rdOf
            rw [Int.toNat_natCast, List.getD_eq_getElem?_getD, List.getElem?_eq_getElem hlt]
            exact List.getElem_mem hlt))
          have hkey : Aside0 (keyOf Tryd.prog 9 (.string s) = some (.string s.data.toList)) := ⟨keyOf_string_mk Tryd.underlying9 SZ.out⟩
          obtain ⟨c, hc⟩ : ∃ c, c = cnt fs n s := ⟨_, rfl⟩
          obtain ⟨c1_, hc1⟩ : ∃ c1_, c1_ = cnt fs (n + 1) s := ⟨_, rfl⟩
          have HAT := Aside0.mk (show D.atKey (.string s.data.toList) (.lit (.int .i64 0)) = .lit (.int .i64 c) by rw [hc]; exact hat.out s)
          have hcb := cnt_bd fs n s
          have hcs : ∀ t, cnt fs (n + 1) t = cnt fs n t + if s = t then 1 else 0 := fun t => by rw [hss, hxx]; exact cnt_succ fs n hlt t
          have hc11 : c1_ = c + 1 := by rw [hc1, hcs s, if_pos rfl, hc]
          have hwc1 : wrap64 (c + 1) = c1_ := by
            have := NF.out
            rw [hc11]
            unfold wrap64
            omega
          have NAT := Aside0.mk (show ∀ t : ByteArray, (D.put (.string s.data.toList) (.lit (.int .i64 (wrap64 (c + 1))))).atKey (.string t.data.toList) (.lit (.int .i64 0)) = .lit (.int .i64 (cnt fs (n + 1) t)) by
            intro t
            by_cases e : t = s
            · subst e
              rw [atKey_put_same hmap.out (key_lit t), hwc1, hc1]
            · rw [atKey_put_other (key_ne e), hat.out t, hcs t, if_neg (fun h => e h.symm), Int.add_zero])
          have NMAP := Aside0.mk (hmap.out.put (.string s.data.toList) (.lit (.int .i64 (wrap64 (c + 1)))))
          have hstep : featV fs (fs.length - n) n = if (c2Head s c1_).2 = true then some ((c2Head s c1_).1, (n : Int)) else featV fs (fs.length - (n + 1)) (n + 1) := by
            rw [show fs.length - n = (fs.length - (n + 1)) + 1 by omega, hc1, hss, hxx]
            rfl
          have ST := Aside0.mk (hstep.symm.trans hs.out)
          have NAS := Aside0.mk (show (D.put (.string s.data.toList) (.lit (.int .i64 (wrap64 (c + 1))))).atKey (.string s.data.toList) (.lit (.int .i64 0)) = .lit (.int .i64 c1_) by rw [hc1]; exact NAT.out s)
          have HLT := Aside0.mk hlt
          have XN := Aside0.mk hxx
          have hm2 := fun o => blk1 (w := wr.alloc o) (blk_alloc Bgm.out o)
          replace p1 := eq_true p1
          replace p2 := eq_true p2
          clear hxx hnn hend hstep hlt hss hc hc1 hcb hcs hc11 hwc1
          by_cases z : (c2Head s c1_).2 = true
          · have H2 := H1.out
            unfold featTail at H2
            rw [← ST.out, if_pos z] at H2
            obtain ⟨rfl, H3⟩ := Prod.mk.inj H2
            obtain ⟨rfl, H4⟩ := Prod.mk.inj H3
            obtain rfl : x = r3 := XN.out.trans H4
            clear H1 H2 H3 H4 XN ST
            go_wp2_with (first | (at_lookup; refine wpList_lookup_own_int _ rfl _ _ 75 rfl 9 3 .i64 mapLaw Tryd.underlying75 Tryd.underlying3 (zeroInt _) w4.heap.size n _ rfl (hown.out.alloc _) _ _ rfl hkey.out ?_; intro c2 hat2 hwc; obtain rfl : c2 = c := by (have h := hat2.symm.trans HAT.out; injection h with h; injection h with _ h)) | (at_mapUpdate; refine wpList_mapUpdate_own _ rfl _ _ _ 75 rfl 9 3 mapLaw Tryd.underlying75 _ w4.heap.size n _ rfl (hown.out.alloc _) (by have := hn.out; have := NF.out; unfold maxLen; omega) _ _ _ rfl rfl hkey.out _ [] (plainElem_int Tryd.underlying3 (wrap64_wf _)) ?_; intro w5 hown1 hgrow1; have O5 := Aside0.mk hown1; have n1_ := Aside0.mk ((below_alloc HB.out _).grown hgrow1 (below_size (below_alloc HB.out _)) (fun j hj => by cases hj; exact GM.out)); have mge_ := Aside0.mk (blk_grown (blk_alloc Bge.out _) hgrow1 (by have := L1.out; intro h_; injection h_; omega)); have mgr_ := Aside0.mk (blk_grown (blk_alloc Bgr.out _) hgrow1 (by have := L2.out; intro h_; injection h_; omega)); have mgn_ := Aside0.mk (blk_grown (blk_alloc Bgn.out _) hgrow1 (by have := L3.out; intro h_; injection h_; omega)); have mgm_ := Aside0.mk (blk_grown (blk_alloc Bgm.out _) hgrow1 (by intro h_; injection h_; omega)); have Bgf := Aside0.mk (blk_grown (blk_new wr _) hgrow1 (by have := hown.out.lt; intro h_; injection h_; omega)); clear HB Bge Bgr Bgn Bgm he hm2; have HB := n1_; have Bge := mge_; have Bgr := mgr_; have Bgn := mgn_; have Bgm := mgm_; clear n1_ mge_ mgr_ mgn_ mgm_ hown1 hgrow1) | (go_at_call 23; refine (c2_first wr.heap.size (w4.heap.size + 1) w4.heap.size (n + 1) _ s c1_ w5.heap.size 2 _ ⟨blk_alloc Bgf.out _⟩ ⟨blk_alloc Bgm.out _⟩ ⟨O5.out.alloc _⟩ SZ ⟨NAS.out⟩ ⟨tab_below ht.out (kB0 HB)⟩ ⟨blk_new _ _⟩).mono ?_; rintro e w6 ⟨rfl, hb⟩; have o1_ := Aside0.mk ((O5.out.alloc _).kept (grown_of_below hb none) (by simp)); have n1_ := Aside0.mk (below_step (kB0 HB) hb); have mge_ := Aside0.mk (blk_below (kb Bge) hb); have mgr_ := Aside0.mk (blk_below (kb Bgr) hb); have mgn_ := Aside0.mk (blk_below (kb Bgn) hb); have mgm_ := Aside0.mk (blk_below (kb Bgm) hb); clear HB Bge Bgr Bgn Bgm; have HB := n1_; have Bge := mge_; have Bgr := mgr_; have Bgn := mgn_; have Bgm := mgm_; clear n1_ mge_ mgr_ mgn_ mgm_; clear hb O5 Bgf; have O5 := o1_; clear o1_; have hgr := blk3 (w := w6) Bgr.out))
            refine bodyPost_ret (results_cell_row rfl _ _ gr 49 #[.int .i64 (c2Head s c1_).1, .int .i64 (-1), .int .i64 x] (0, 0) _ rfl (by (with_reducible repeat (first | refine blk_drewN ?_ _ | refine blk_drew ?_ | refine blk_alloc ?_ _)); refine blk_put (cs := #[.int .i64 (c2Head s c1_).1, .int .i64 (-1), .int .i64 0]) ?_ 2 _ rfl; (with_reducible repeat (first | refine blk_drewN ?_ _ | refine blk_drew ?_ | refine blk_alloc ?_ _)); refine blk_put (cs := #[.int .i64 (c2Head s c1_).1, .int .i64 0, .int .i64 0]) ?_ 1 _ rfl; (with_reducible repeat (first | refine blk_drewN ?_ _ | refine blk_drew ?_ | refine blk_alloc ?_ _)); refine blk_put (cs := #[.int .i64 0, .int .i64 0, .int .i64 0]) ?_ 0 _ rfl; (with_reducible repeat (first | refine blk_drewN ?_ _ | refine blk_drew ?_ | refine blk_alloc ?_ _)); exact Bgr.out) Tryd.underlying49 rfl (by kernel_rfl)) rfl ?_; exact ⟨rfl, kB1 HB Ggr⟩
          · have z' : (c2Head s c1_).2 = false := by simpa using z
            have ST2 := Aside0.mk (by have h := ST.out; rw [if_neg z] at h; exact h)
            clear z ST
            go_wp2_with (first | (at_lookup; refine wpList_lookup_own_int _ rfl _ _ 75 rfl 9 3 .i64 mapLaw Tryd.underlying75 Tryd.underlying3 (zeroInt _) w4.heap.size n _ rfl (hown.out.alloc _) _ _ rfl hkey.out ?_; intro c2 hat2 hwc; obtain rfl : c2 = c := by (have h := hat2.symm.trans HAT.out; injection h with h; injection h with _ h)) | (at_mapUpdate; refine wpList_mapUpdate_own _ rfl _ _ _ 75 rfl 9 3 mapLaw Tryd.underlying75 _ w4.heap.size n _ rfl (hown.out.alloc _) (by have := hn.out; have := NF.out; unfold maxLen; omega) _ _ _ rfl rfl hkey.out _ [] (plainElem_int Tryd.underlying3 (wrap64_wf _)) ?_; intro w5 hown1 hgrow1; have O5 := Aside0.mk hown1; have n1_ := Aside0.mk ((below_alloc HB.out _).grown hgrow1 (below_size (below_alloc HB.out _)) (fun j hj => by cases hj; exact GM.out)); have mge_ := Aside0.mk (blk_grown (blk_alloc Bge.out _) hgrow1 (by have := L1.out; intro h_; injection h_; omega)); have mgr_ := Aside0.mk (blk_grown (blk_alloc Bgr.out _) hgrow1 (by have := L2.out; intro h_; injection h_; omega)); have mgn_ := Aside0.mk (blk_grown (blk_alloc Bgn.out _) hgrow1 (by have := L3.out; intro h_; injection h_; omega)); have mgm_ := Aside0.mk (blk_grown (blk_alloc Bgm.out _) hgrow1 (by intro h_; injection h_; omega)); have Bgf := Aside0.mk (blk_grown (blk_new wr _) hgrow1 (by have := hown.out.lt; intro h_; injection h_; omega)); clear HB Bge Bgr Bgn Bgm he hm2; have HB := n1_; have Bge := mge_; have Bgr := mgr_; have Bgn := mgn_; have Bgm := mgm_; clear n1_ mge_ mgr_ mgn_ mgm_ hown1 hgrow1) | (go_at_call 23; refine (c2_first wr.heap.size (w4.heap.size + 1) w4.heap.size (n + 1) _ s c1_ w5.heap.size 2 _ ⟨blk_alloc Bgf.out _⟩ ⟨blk_alloc Bgm.out _⟩ ⟨O5.out.alloc _⟩ SZ ⟨NAS.out⟩ ⟨tab_below ht.out (kB0 HB)⟩ ⟨blk_new _ _⟩).mono ?_; rintro e w6 ⟨rfl, hb⟩; have o1_ := Aside0.mk ((O5.out.alloc _).kept (grown_of_below hb none) (by simp)); have n1_ := Aside0.mk (below_step (kB0 HB) hb); have mge_ := Aside0.mk (blk_below (kb Bge) hb); have mgr_ := Aside0.mk (blk_below (kb Bgr) hb); have mgn_ := Aside0.mk (blk_below (kb Bgn) hb); have mgm_ := Aside0.mk (blk_below (kb Bgm) hb); clear HB Bge Bgr Bgn Bgm; have HB := n1_; have Bge := mge_; have Bgr := mgr_; have Bgn := mgn_; have Bgm := mgm_; clear n1_ mge_ mgr_ mgn_ mgm_; clear hb O5 Bgf; have O5 := o1_; clear o1_; have hgr := blk3 (w := w6) Bgr.out))
            go_roundg k1
            case measure => have := hk.out; omega
            case rel => exact ⟨_, n + 1, _, rfl, ⟨by have := XN.out; have := HLT.out; have := NF.out; unfold wrap64; omega⟩, ST2, ⟨HLT.out⟩, ⟨by have := hk.out; have := HLT.out; omega⟩, ⟨kb Bge⟩, ⟨kb Bgr⟩, ⟨kb Bgn⟩, ⟨kb Bgm⟩, O5, NMAP, NAT, ⟨kB0 HB⟩⟩
end
end Go.Proofs.YtpeiafamkajedaaDoor.FAll
