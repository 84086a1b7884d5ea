/-
  thicketref08.Check: the document's answer, where its parts answer as told.
-/
import Derived.Test.YtkemfbocojoagaaDoorQh
namespace Go.Proofs.YtkemfbocojoagaaDoor.FAll
open Go.RowKit Go.Shelf Go.Maps Go.WideMaps Go.Proofs.YtkemfbocojoagaaDoorW.PrintWords Go.Proofs.YtkemfbocojoagaaDoorW.PrintLast Go.Proofs.YtkemfbocojoagaaDoorW.PrintMore
set_option linter.unusedVariables false
set_option linter.unusedSimpArgs false
theorem kC {w w' : World} {A : Option Addr} {xs : List Int} (h : Aside0 (Kd.C (Kd.int .u32) w A xs.length xs)) (k : Kd.C (Kd.int .u32) w A xs.length xs → Kd.C (Kd.int .u32) w' A xs.length xs := by intro h_; (with_reducible repeat (first | refine Kd.C_alloc ?_ _ | refine Kd.C_drewN ?_ _ | refine Kd.C_drew ?_)); exact h_) : Kd.C (Kd.int .u32) w' A xs.length xs := k h.out
section
variable (sh : S36 → Int × Int) (nm : ByteArray) (fs : List ByteArray) (outs : Int) (bs : List Int) (ts : List S36)
theorem check_bad {a1 a2 a3 : Int} (h : headV nm fs outs bs.length ts.length = (a1, a2, a3, true)) : checkV sh nm fs outs bs ts = (a1, a2, a3) := by
  unfold headV at h
  unfold checkV
  by_cases q1 : (c1Head nm fs.length).2 = true
  · rw [if_pos q1] at h ⊢
    simp only [Prod.mk.injEq] at h; obtain ⟨rfl, rfl, rfl, _⟩ := h; rfl
  · rw [if_neg q1] at h ⊢
    unfold featTail
    cases hf : featV fs fs.length 0 with
    | some p => rw [hf] at h; simp only [Prod.mk.injEq] at h; obtain ⟨rfl, rfl, rfl, _⟩ := h; rfl
    | none =>
      rw [hf] at h
      show c3Tail sh fs outs bs ts = _
      unfold c3Tail
      replace h : (if (c3Head outs bs.length ts.length).2 = true then ((c3Head outs bs.length ts.length).1, (-1 : Int), (-1 : Int), true) else (0, 0, 0, false)) = (a1, a2, a3, true) := h
      by_cases q3 : (c3Head outs bs.length ts.length).2 = true
      · rw [if_pos q3] at h ⊢
        simp only [Prod.mk.injEq] at h; obtain ⟨rfl, rfl, rfl, _⟩ := h; rfl
      · rw [if_neg q3] at h
        simp only [Prod.mk.injEq] at h; exact absurd h.2.2.2 (by decide)
theorem check_good {a1 a2 a3 : Int} (h : headV nm fs outs bs.length ts.length = (a1, a2, a3, false)) : checkV sh nm fs outs bs ts = treesTail sh fs outs bs ts ∧ a1 = 0 ∧ a2 = 0 ∧ a3 = 0 ∧ NameB nm ∧ 1 ≤ fs.length ∧ fs.length ≤ 65536 ∧ 1 ≤ outs ∧ outs ≤ 64 ∧ (bs.length : Int) = outs ∧ ts.length ≤ 65536 := by
  unfold headV at h
  unfold checkV
  by_cases q1 : (c1Head nm fs.length).2 = true
  · rw [if_pos q1] at h
    simp only [Prod.mk.injEq] at h; exact absurd h.2.2.2 (by decide)
  · rw [if_neg q1] at h ⊢
    unfold featTail
    cases hf : featV fs fs.length 0 with
    | some p => rw [hf] at h; simp only [Prod.mk.injEq] at h; exact absurd h.2.2.2 (by decide)
    | none =>
      rw [hf] at h
      show c3Tail sh fs outs bs ts = _ ∧ _
      unfold c3Tail
      replace h : (if (c3Head outs bs.length ts.length).2 = true then ((c3Head outs bs.length ts.length).1, (-1 : Int), (-1 : Int), true) else (0, 0, 0, false)) = (a1, a2, a3, false) := h
      by_cases q3 : (c3Head outs bs.length ts.length).2 = true
      · rw [if_pos q3] at h
        simp only [Prod.mk.injEq] at h; exact absurd h.2.2.2 (by decide)
      · rw [if_neg q3] at h ⊢
        simp only [Prod.mk.injEq] at h; obtain ⟨rfl, rfl, rfl, _⟩ := h
        refine ⟨rfl, rfl, rfl, rfl, ?_⟩
        unfold c1Head at q1
        unfold c3Head at q3
        by_cases u1 : NameB nm
        · by_cases u2 : 1 ≤ fs.length ∧ fs.length ≤ 65536
          · by_cases u3 : 1 ≤ outs ∧ outs ≤ 64
            · by_cases u4 : (bs.length : Int) = outs
              · by_cases u5 : ts.length ≤ 65536
                · exact ⟨u1, u2.1, u2.2, u3.1, u3.2, u4, u5⟩
                · rw [if_pos u3, if_pos u4, if_neg u5] at q3; exact absurd rfl q3
              · rw [if_pos u3, if_neg u4] at q3; exact absurd rfl q3
            · rw [if_neg u3] at q3; exact absurd rfl q3
          · rw [if_pos u1, if_neg u2] at q1; exact absurd rfl q1
        · rw [if_neg u1] at q1; exact absurd rfl q1
end
/-- What the document's tree answers for a tree. -/
def refTreeV (v : Int × Int) (n : Int) : Int × Int × Int × Bool := if v.1 = 0 then (0, 0, 0, false) else (v.1, n, v.2, true)
section
variable (nm : ByteArray) (AF : Option Addr) (cF : Nat) (fs : List ByteArray) (outs : Int) (AB : Option Addr) (cB : Nat) (bs : List Int) (AT : Option Addr) (cT : Nat) (ts : List S36)
set_option maxHeartbeats 16000000 in
set_option maxRecDepth 100000 in
theorem refCheck.calls (sh : S36 → Int × Int) (w : World) (hfs : Aside0 (Kd.C Kd.string w AF fs.length fs)) (hsz : Aside0 (∀ s ∈ fs, s.size ≤ maxLen)) (hnm : Aside0 (nm.size ≤ maxLen)) (hbs : Aside0 (Kd.C (Kd.int .i64) w AB bs.length bs)) (hts : Aside0 (Kd.C k36 w AT ts.length ts))
    (hcF : Aside0 (fs.length ≤ cF)) (hcB : Aside0 (bs.length ≤ cB)) (hcT : Aside0 (ts.length ≤ cT))
    (htree : Aside0 (ts.length ≤ 65536 → ∀ n : Nat, n < ts.length → ∃ k, thicketref08_tree.f k nm fs outs bs ts (n : Int) = some (refTreeV (treeV fs.length outs (rd_T36 ts (n : Int)).f0 (rd_T36 ts (n : Int)).f1 (sh (rd_T36 ts (n : Int)))) n)))
    (mR : List Int) (kf : Nat) (KF : Aside0 (thicketref01_From.f kf 4611686018427387904 = some mR)) (rm : Nat → List Int)
    (hroom : Aside0 (ts.length ≤ 65536 → ∀ n : Nat, n < bs.length → (∃ k, thicketref08_Room.f k nm fs outs bs ts (n : Int) = some (rm n, 0)) ∧ ∃ k, thicketref01_Cmp.f k (rm n) mR = some (cmpL (strip ((roomsL bs ts).getD n [])) (strip mostL))))
    (r1 r2 r3 : Int) (H : Aside0 (checkV sh nm fs outs bs ts = (r1, r2, r3))) :
    Calls Tryd.prog 5 #[.agg #[.string nm, .slice AF fs.length cF, .int .i64 outs, .slice AB bs.length cB, .slice AT ts.length cT]] w fun e w' => e = .returned (.agg #[.int .i64 r1, .int .i64 r2, .int .i64 r3]) ∧ Below w.heap.size w w' := by
  have HB := Aside0.mk (Below.refl w.heap.size w)
  obtain ⟨⟨a1, a2, a3, a4⟩, ha⟩ : ∃ a, headV nm fs outs bs.length ts.length = a := ⟨_, rfl⟩
  have HH := Aside0.mk ha
  cases a4 with
  | true =>
    have H1 := (check_bad sh nm fs outs bs ts ha).symm.trans H.out
    obtain ⟨rfl, H2⟩ := Prod.mk.inj H1
    obtain ⟨rfl, rfl⟩ := Prod.mk.inj H2
    clear ha H H1 H2
    go_enter Tryd.func5, Tryd.ntmps5
    go_wp2_with (first | ((with_reducible refine gate_dst (N := 1) rfl ?_); refine box_event ?hg (N := 1) ?hd (cs := #[.string nm, .slice AF fs.length cF, .int .i64 outs, .slice AB bs.length cB, .slice AT ts.length cT]) (t := 26) ?hr ?_; (case hd => rfl); (case hg => rfl); (case hr => first | (go_simp; done) | (go_simp; rfl)); intro ge hg w1 hbox hb; have n0_ := Aside0.mk (below_step (kB0 HB) hb); skip; have Bge := Aside0.mk hbox; have Gge := Aside0.mk (kg hg (kB0 HB) : w.heap.size ≤ ge); clear HB; have HB := n0_; clear n0_ hb hbox hg; skip) | ((with_reducible refine gate_dst (N := 2) rfl ?_); refine box_event ?hg (N := 2) ?hd (cs := #[.int .i64 0, .int .i64 0, .int .i64 0]) (t := 30) ?hr ?_; (case hd => rfl); (case hg => rfl); (case hr => first | (go_simp; done) | (go_simp; rfl)); intro gr hg w2 hbox hb; have n0_ := Aside0.mk (below_step (kB0 HB) hb); have mge_ := Aside0.mk (blk_below (kb Bge) hb); clear Bge; have Bge := mge_; clear mge_; have Bgr := Aside0.mk hbox; have Ggr := Aside0.mk (kg hg (kB0 HB) : w.heap.size ≤ gr); clear HB; have HB := n0_; clear n0_ hb hbox hg; have he := blk5 (w := w2) Bge.out) | (go_at_call 10; refine (refHead.calls nm AF cF fs outs AB cB bs AT cT ts _ ⟨Kd.C_below hfs.out (kB0 HB)⟩ hsz hnm _ _ _ _ HH).mono ?_; rintro e w3 ⟨rfl, hb⟩; have n1_ := Aside0.mk (below_step (kB0 HB) hb); have mge_ := Aside0.mk (blk_below (kb Bge) hb); have mgr_ := Aside0.mk (blk_below (kb Bgr) hb); clear HB Bge Bgr; have HB := n1_; have Bge := mge_; have Bgr := mgr_; clear n1_ mge_ mgr_; clear hb he; have he := fun o => blk5 (w := w3.alloc o) (blk_alloc Bge.out o); have hgr := fun o => blk3 (w := w3.alloc o) (blk_alloc Bgr.out o)))
    refine bodyPost_ret (results_cell_row rfl _ _ gr 30 #[.int .i64 a1, .int .i64 a2, .int .i64 a3] (0, 0) _ rfl (by (with_reducible repeat (first | refine blk_drewN ?_ _ | refine blk_drew ?_ | refine blk_alloc ?_ _)); refine blk_put (cs := #[.int .i64 a1, .int .i64 a2, .int .i64 0]) ?_ 2 _ rfl; (with_reducible repeat (first | refine blk_drewN ?_ _ | refine blk_drew ?_ | refine blk_alloc ?_ _)); refine blk_put (cs := #[.int .i64 a1, .int .i64 0, .int .i64 0]) ?_ 1 _ rfl; (with_reducible repeat (first | refine blk_drewN ?_ _ | refine blk_drew ?_ | refine blk_alloc ?_ _)); refine blk_put (cs := #[.int .i64 0, .int .i64 0, .int .i64 0]) ?_ 0 _ rfl; (with_reducible repeat (first | refine blk_drewN ?_ _ | refine blk_drew ?_ | refine blk_alloc ?_ _)); exact Bgr.out) Tryd.underlying30 rfl (by kernel_rfl)) rfl ?_; exact ⟨rfl, kB1 HB Ggr⟩
  | false =>
    obtain ⟨hc, rfl, rfl, rfl, _, hf1, hf2, ho1, ho2, hbo, htl⟩ := check_good sh nm fs outs bs ts ha
    have O3 := Aside0.mk (show 1 ≤ outs ∧ outs ≤ 64 ∧ (bs.length : Int) = outs ∧ ts.length ≤ 65536 from ⟨ho1, ho2, hbo, htl⟩)
    have H3 := Aside0.mk (hc.symm.trans H.out)
    clear hc hf1 hf2 ho1 ho2 hbo htl ha H
    go_enter Tryd.func5, Tryd.ntmps5
    go_wp2_with (first | ((with_reducible refine gate_dst (N := 1) rfl ?_); refine box_event ?hg (N := 1) ?hd (cs := #[.string nm, .slice AF fs.length cF, .int .i64 outs, .slice AB bs.length cB, .slice AT ts.length cT]) (t := 26) ?hr ?_; (case hd => rfl); (case hg => rfl); (case hr => first | (go_simp; done) | (go_simp; rfl)); intro ge hg w1 hbox hb; have n0_ := Aside0.mk (below_step (kB0 HB) hb); skip; have Bge := Aside0.mk hbox; have Gge := Aside0.mk (kg hg (kB0 HB) : w.heap.size ≤ ge); clear HB; have HB := n0_; clear n0_ hb hbox hg; skip) | ((with_reducible refine gate_dst (N := 2) rfl ?_); refine box_event ?hg (N := 2) ?hd (cs := #[.int .i64 0, .int .i64 0, .int .i64 0]) (t := 30) ?hr ?_; (case hd => rfl); (case hg => rfl); (case hr => first | (go_simp; done) | (go_simp; rfl)); intro gr hg w2 hbox hb; have n0_ := Aside0.mk (below_step (kB0 HB) hb); have mge_ := Aside0.mk (blk_below (kb Bge) hb); clear Bge; have Bge := mge_; clear mge_; have Bgr := Aside0.mk hbox; have Ggr := Aside0.mk (kg hg (kB0 HB) : w.heap.size ≤ gr); clear HB; have HB := n0_; clear n0_ hb hbox hg; have he := blk5 (w := w2) Bge.out) | (go_at_call 10; refine (refHead.calls nm AF cF fs outs AB cB bs AT cT ts _ ⟨Kd.C_below hfs.out (kB0 HB)⟩ hsz hnm _ _ _ _ HH).mono ?_; rintro e w3 ⟨rfl, hb⟩; have n1_ := Aside0.mk (below_step (kB0 HB) hb); have mge_ := Aside0.mk (blk_below (kb Bge) hb); have mgr_ := Aside0.mk (blk_below (kb Bgr) hb); clear HB Bge Bgr; have HB := n1_; have Bge := mge_; have Bgr := mgr_; clear n1_ mge_ mgr_; clear hb he; have he := fun o => blk5 (w := w3.alloc o) (blk_alloc Bge.out o); have hgr := fun o => blk3 (w := w3.alloc o) (blk_alloc Bgr.out o)))
    have NE := Aside0.mk (Nat.ne_of_lt (blk_lt Bgr.out) : gr ≠ w3.heap.size)
    have NEG := Aside0.mk (Nat.ne_of_lt (blk_lt Bge.out) : ge ≠ w3.heap.size)
    have GB := Aside0.mk (below_size (kB0 HB) : w.heap.size ≤ w3.heap.size)
    clear he hgr
    go_loopg [5] (ts.length + 1) (fun kq v5 w' => ∃ (x : Int) (n : Nat), v5 = .int .i64 x ∧ Aside0 (x = n) ∧ Aside0 (treesV sh fs.length outs ts (ts.length - n) n = treesV sh fs.length outs ts ts.length 0) ∧ Aside0 (n ≤ ts.length) ∧ Aside0 (ts.length - n < kq) ∧ Aside0 (w'.heap[ge]? = some (.cells #[.string nm, .slice AF fs.length cF, .int .i64 outs, .slice AB bs.length cB, .slice AT ts.length cT] 26 (0, 0))) ∧ Aside0 (w'.heap[gr]? = some (.cells #[.int .i64 0, .int .i64 0, .int .i64 0] 30 (0, 0))) ∧ Aside0 (w'.heap[w3.heap.size]? = some (.cells #[.int .i64 0, .int .i64 0, .int .i64 0] 30 (0, 0))) ∧ Aside0 (Below w.heap.size w w'))
    case atStart => exact ⟨0, 0, rfl, ⟨rfl⟩, ⟨rfl⟩, ⟨Nat.zero_le _⟩, ⟨by omega⟩, ⟨kb Bge⟩, ⟨kb Bgr⟩, ⟨blk_new w3 _⟩, ⟨kB0 HB⟩⟩
    case round =>
      clear HB Bge Bgr
      obtain ⟨x, n, rfl, hx, hs, hn, hk, Bge, Bgr, Bgb, HB⟩ := hrel
      cases gk with
      | zero => exact absurd hk.out (by omega)
      | succ k2 =>
        have he := blk5 (w := wr) Bge.out
        have hxx := hx.out
        have hnn := hn.out
        by_cases hend : n = ts.length
        · have cnd : decide (x < (ts.length : Int)) = false := decide_eq_false (by omega)
          have hnone : treesV sh fs.length outs ts ts.length 0 = none := by rw [← hs.out, hend, Nat.sub_self]; rfl
          have H4 := Aside0.mk (show sumsTail bs ts = (r1, r2, r3) by have h := H3.out; unfold treesTail at h; rw [hnone] at h; exact h)
          clear hxx hnn hend hnone hs hx hn hk H3
          go_wp2_with (first | (go_at_call 12; refine (thicketref01_From.calls kf 4611686018427387904 mR _ KF.out).mono ?_; rintro e w6 ⟨vm, rfl, hR, hb⟩; obtain ⟨Am, cm, rfl, hmc, hmC⟩ := Kd.R_reads hR; have MC := Aside0.mk hmC; have MK := Aside0.mk hmc; have n1_ := Aside0.mk (below_step (kB0 HB) hb); have mge_ := Aside0.mk (blk_below (kb Bge) hb); have mgr_ := Aside0.mk (blk_below (kb Bgr) hb); clear HB Bge Bgr; have HB := n1_; have Bge := mge_; have Bgr := mgr_; clear n1_ mge_ mgr_; clear hb hmC hmc hR he))
          go_loopg [7] (bs.length + 1) (fun kq v7 w' => ∃ (x : Int) (n : Nat), v7 = .int .i64 x ∧ Aside0 (x = n) ∧ Aside0 (sumsV (roomsL bs ts) (bs.length - n) n = sumsV (roomsL bs ts) bs.length 0) ∧ Aside0 (n ≤ bs.length) ∧ Aside0 (bs.length - n < kq) ∧ Aside0 (w'.heap[ge]? = some (.cells #[.string nm, .slice AF fs.length cF, .int .i64 outs, .slice AB bs.length cB, .slice AT ts.length cT] 26 (0, 0))) ∧ Aside0 (w'.heap[gr]? = some (.cells #[.int .i64 0, .int .i64 0, .int .i64 0] 30 (0, 0))) ∧ Aside0 (Kd.C (Kd.int .u32) w' Am mR.length mR) ∧ Aside0 (Below w.heap.size w w'))
          case atStart => exact ⟨0, 0, rfl, ⟨rfl⟩, ⟨rfl⟩, ⟨Nat.zero_le _⟩, ⟨by omega⟩, ⟨kb Bge⟩, ⟨kb Bgr⟩, ⟨kC MC⟩, ⟨kB0 HB⟩⟩
          case round =>
            clear HB Bge Bgr Bgb MC
            obtain ⟨x, n, rfl, hx, hs, hn, hk, Bge, Bgr, MC, HB⟩ := hrel
            cases gk with
            | zero => exact absurd hk.out (by omega)
            | succ k3 =>
              have hxx := hx.out
              have hnn := hn.out
              have hoo := O3.out
              have he := blk5 (w := wr) Bge.out
              by_cases hend : n = bs.length
              · have cnd : decide (x < outs) = false := decide_eq_false (by omega)
                have hnone : sumsV (roomsL bs ts) bs.length 0 = none := by rw [← hs.out, hend, Nat.sub_self]; rfl
                have H6 := H4.out
                unfold sumsTail at H6
                rw [hnone] at H6
                obtain ⟨rfl, H7⟩ := Prod.mk.inj H6
                obtain ⟨rfl, rfl⟩ := Prod.mk.inj H7
                have hgr := blk3 (w := wr) Bgr.out
                clear hxx hnn hoo hend hnone hs hx hn hk H4 H6 H7
                go_wp2
                refine bodyPost_ret (results_cell_row rfl _ _ gr 30 #[.int .i64 0, .int .i64 0, .int .i64 0] (0, 0) _ rfl (by (with_reducible repeat (first | refine blk_drewN ?_ _ | refine blk_drew ?_ | refine blk_alloc ?_ _)); refine blk_put (cs := #[.int .i64 0, .int .i64 0, .int .i64 0]) ?_ 2 _ rfl; (with_reducible repeat (first | refine blk_drewN ?_ _ | refine blk_drew ?_ | refine blk_alloc ?_ _)); refine blk_put (cs := #[.int .i64 0, .int .i64 0, .int .i64 0]) ?_ 1 _ rfl; (with_reducible repeat (first | refine blk_drewN ?_ _ | refine blk_drew ?_ | refine blk_alloc ?_ _)); refine blk_put (cs := #[.int .i64 0, .int .i64 0, .int .i64 0]) ?_ 0 _ rfl; (with_reducible repeat (first | refine blk_drewN ?_ _ | refine blk_drew ?_ | refine blk_alloc ?_ _)); exact Bgr.out) Tryd.underlying30 rfl (by kernel_rfl)) rfl ?_; exact ⟨rfl, kB1 HB Ggr⟩
              · have cnd : decide (x < outs) = true := decide_eq_true (by omega)
                have hlt : n < bs.length := by omega
                obtain ⟨⟨kr, hkr⟩, km, hkm⟩ := hroom.out (by omega) n hlt
                rw [← hxx] at hkr
                obtain ⟨v, hv⟩ : ∃ v, v = cmpL (strip ((roomsL bs ts).getD n [])) (strip mostL) := ⟨_, rfl⟩
                rw [← hv] at hkm
                have hstep : sumsV (roomsL bs ts) (bs.length - n) n = if 0 ≤ v then some (n : Int) else sumsV (roomsL bs ts) (bs.length - (n + 1)) (n + 1) := by
                  rw [show bs.length - n = (bs.length - (n + 1)) + 1 by omega, hv]
                  rfl
                have ST := Aside0.mk (hstep.symm.trans hs.out)
                have KR := Aside0.mk hkr
                have KM := Aside0.mk hkm
                have HLT := Aside0.mk hlt
                have XN := Aside0.mk hxx
                clear hxx hnn hoo hend hstep hv hlt hkr hkm
                by_cases z : 0 ≤ v
                · have d1 : decide (0 ≤ v) = true := decide_eq_true z
                  have H6 := H4.out
                  unfold sumsTail at H6
                  rw [← ST.out, if_pos z] at H6
                  obtain ⟨rfl, H7⟩ := Prod.mk.inj H6
                  obtain ⟨rfl, H8⟩ := Prod.mk.inj H7
                  obtain rfl : x = r3 := XN.out.trans H8
                  clear z H4 H6 H7 H8 XN ST
                  go_wp2_with (first | (go_at_call 13; refine (thicketref08_Room.calls kr nm AF cF fs outs AB cB bs AT cT ts x (rm n) 0 _ (Kd.C_below hfs.out (kB0 HB)) hcF.out (Kd.C_below hbs.out (kB0 HB)) hcB.out (Kd.C_below hts.out (kB0 HB)) hcT.out KR.out).mono ?_; rintro e w7 ⟨vr, rfl, hR, hb⟩; obtain ⟨Ar, cr, rfl, hrc, hrC⟩ := Kd.R_reads hR; have RC := Aside0.mk hrC; have RK := Aside0.mk hrc; have mc_ := Aside0.mk (Kd.C_below (kC MC) hb); have n1_ := Aside0.mk (below_step (kB0 HB) hb); have mge_ := Aside0.mk (blk_below (kb Bge) hb); have mgr_ := Aside0.mk (blk_below (kb Bgr) hb); clear MC; have MC := mc_; clear mc_; clear HB Bge Bgr; have HB := n1_; have Bge := mge_; have Bgr := mgr_; clear n1_ mge_ mgr_; clear hb hrC hrc hR he) | (go_at_call 14; refine (thicketref01_Cmp.calls km Ar cr (rm n) Am cm mR v _ RC.out RK.out MC.out MK.out KM.out).mono ?_; rintro e w8 ⟨rfl, hb⟩; have mc_ := Aside0.mk (Kd.C_below (kC MC) hb); have n1_ := Aside0.mk (below_step (kB0 HB) hb); have mge_ := Aside0.mk (blk_below (kb Bge) hb); have mgr_ := Aside0.mk (blk_below (kb Bgr) hb); clear MC; have MC := mc_; clear mc_; clear HB Bge Bgr; have HB := n1_; have Bge := mge_; have Bgr := mgr_; clear n1_ mge_ mgr_; clear hb; have hgr := blk3 (w := w8) Bgr.out))
                  refine bodyPost_ret (results_cell_row rfl _ _ gr 30 #[.int .i64 31, .int .i64 (-1), .int .i64 x] (0, 0) _ rfl (by (with_reducible repeat (first | refine blk_drewN ?_ _ | refine blk_drew ?_ | refine blk_alloc ?_ _)); refine blk_put (cs := #[.int .i64 31, .int .i64 (-1), .int .i64 0]) ?_ 2 _ rfl; (with_reducible repeat (first | refine blk_drewN ?_ _ | refine blk_drew ?_ | refine blk_alloc ?_ _)); refine blk_put (cs := #[.int .i64 31, .int .i64 0, .int .i64 0]) ?_ 1 _ rfl; (with_reducible repeat (first | refine blk_drewN ?_ _ | refine blk_drew ?_ | refine blk_alloc ?_ _)); refine blk_put (cs := #[.int .i64 0, .int .i64 0, .int .i64 0]) ?_ 0 _ rfl; (with_reducible repeat (first | refine blk_drewN ?_ _ | refine blk_drew ?_ | refine blk_alloc ?_ _)); exact Bgr.out) Tryd.underlying30 rfl (by kernel_rfl)) rfl ?_; exact ⟨rfl, kB1 HB Ggr⟩
                · have d1 : decide (0 ≤ v) = false := decide_eq_false z
                  have ST2 := Aside0.mk (by have h := ST.out; rw [if_neg z] at h; exact h)
                  clear z ST
                  go_wp2_with (first | (go_at_call 13; refine (thicketref08_Room.calls kr nm AF cF fs outs AB cB bs AT cT ts x (rm n) 0 _ (Kd.C_below hfs.out (kB0 HB)) hcF.out (Kd.C_below hbs.out (kB0 HB)) hcB.out (Kd.C_below hts.out (kB0 HB)) hcT.out KR.out).mono ?_; rintro e w7 ⟨vr, rfl, hR, hb⟩; obtain ⟨Ar, cr, rfl, hrc, hrC⟩ := Kd.R_reads hR; have RC := Aside0.mk hrC; have RK := Aside0.mk hrc; have mc_ := Aside0.mk (Kd.C_below (kC MC) hb); have n1_ := Aside0.mk (below_step (kB0 HB) hb); have mge_ := Aside0.mk (blk_below (kb Bge) hb); have mgr_ := Aside0.mk (blk_below (kb Bgr) hb); clear MC; have MC := mc_; clear mc_; clear HB Bge Bgr; have HB := n1_; have Bge := mge_; have Bgr := mgr_; clear n1_ mge_ mgr_; clear hb hrC hrc hR he) | (go_at_call 14; refine (thicketref01_Cmp.calls km Ar cr (rm n) Am cm mR v _ RC.out RK.out MC.out MK.out KM.out).mono ?_; rintro e w8 ⟨rfl, hb⟩; have mc_ := Aside0.mk (Kd.C_below (kC MC) hb); have n1_ := Aside0.mk (below_step (kB0 HB) hb); have mge_ := Aside0.mk (blk_below (kb Bge) hb); have mgr_ := Aside0.mk (blk_below (kb Bgr) hb); clear MC; have MC := mc_; clear mc_; clear HB Bge Bgr; have HB := n1_; have Bge := mge_; have Bgr := mgr_; clear n1_ mge_ mgr_; clear hb; have hgr := blk3 (w := w8) Bgr.out))
                  go_roundg k3
                  case measure => have := hk.out; omega
                  case rel => exact ⟨_, n + 1, rfl, ⟨by have := XN.out; have := HLT.out; have := O3.out; unfold wrap64; omega⟩, ST2, ⟨HLT.out⟩, ⟨by have := hk.out; have := HLT.out; omega⟩, ⟨kb Bge⟩, ⟨kb Bgr⟩, ⟨kC MC⟩, ⟨kB0 HB⟩⟩
        · have cnd : decide (x < (ts.length : Int)) = true := decide_eq_true (by omega)
          have hlt : n < ts.length := by omega
          obtain ⟨kt, hkt⟩ := htree.out O3.out.2.2.2 n hlt
          obtain ⟨v1, hv1⟩ : ∃ v1, v1 = (treeV fs.length outs (rd_T36 ts (n : Int)).f0 (rd_T36 ts (n : Int)).f1 (sh (rd_T36 ts (n : Int)))).1 := ⟨_, rfl⟩
          obtain ⟨v2, hv2⟩ : ∃ v2, v2 = (treeV fs.length outs (rd_T36 ts (n : Int)).f0 (rd_T36 ts (n : Int)).f1 (sh (rd_T36 ts (n : Int)))).2 := ⟨_, rfl⟩
          unfold refTreeV at hkt
          rw [← hv1, ← hv2, ← hxx] at hkt
          have hstep : treesV sh fs.length outs ts (ts.length - n) n = if v1 = 0 then treesV sh fs.length outs ts (ts.length - (n + 1)) (n + 1) else some (v1, (n : Int), v2) := by
            rw [show ts.length - n = (ts.length - (n + 1)) + 1 by omega, hv1, hv2]
            rfl
          have ST := Aside0.mk (hstep.symm.trans hs.out)
          have HLT := Aside0.mk hlt
          have XN := Aside0.mk hxx
          clear hxx hnn hend hstep hlt hv1 hv2
          by_cases z : v1 = 0
          · rw [if_pos z] at hkt
            have KT := Aside0.mk hkt
            have ST2 := Aside0.mk (by have h := ST.out; rw [if_pos z] at h; exact h)
            clear z ST hkt
            go_wp2_with (first | (go_at_call 11; refine (thicketref08_tree.calls kt nm AF cF fs outs AB cB bs AT cT ts x 0 0 0 false _ (Kd.C_below hfs.out (kB0 HB)) hcF.out (Kd.C_below hbs.out (kB0 HB)) hcB.out (Kd.C_below hts.out (kB0 HB)) hcT.out KT.out).mono ?_; rintro e w5 ⟨rfl, hb⟩; have n1_ := Aside0.mk (below_step (kB0 HB) hb); have mge_ := Aside0.mk (blk_below (kb Bge) hb); have mgr_ := Aside0.mk (blk_below (kb Bgr) hb); have mgb_ := Aside0.mk (blk_below (kb Bgb) hb); clear HB Bge Bgr Bgb; have HB := n1_; have Bge := mge_; have Bgr := mgr_; have Bgb := mgb_; clear n1_ mge_ mgr_ mgb_; clear hb he; have hgb := blk3 (w := w5) Bgb.out; have hgr := fun u1 u2 u3 => blk3 (w := ((w5.setCell ⟨w3.heap.size, 0, none⟩ u1).setCell ⟨w3.heap.size, 1, none⟩ u2).setCell ⟨w3.heap.size, 2, none⟩ u3) (blk_far (blk_far (blk_far Bgr.out (p := ⟨w3.heap.size, 0, none⟩) NE.out u1) (p := ⟨w3.heap.size, 1, none⟩) NE.out u2) (p := ⟨w3.heap.size, 2, none⟩) NE.out u3)))
            go_roundg k2
            case measure => have := hk.out; omega
            case rel => exact ⟨_, n + 1, rfl, ⟨by have := XN.out; have := HLT.out; have := O3.out; unfold wrap64; omega⟩, ST2, ⟨HLT.out⟩, ⟨by have := hk.out; have := HLT.out; omega⟩, ⟨by (with_reducible repeat (first | refine blk_drewN ?_ _ | refine blk_drew ?_ | refine blk_alloc ?_ _ | refine blk_far ?_ (p := ⟨w3.heap.size, 0, none⟩) NEG.out _ | refine blk_far ?_ (p := ⟨w3.heap.size, 1, none⟩) NEG.out _ | refine blk_far ?_ (p := ⟨w3.heap.size, 2, none⟩) NEG.out _)); exact Bge.out⟩, ⟨by (with_reducible repeat (first | refine blk_drewN ?_ _ | refine blk_drew ?_ | refine blk_alloc ?_ _ | refine blk_far ?_ (p := ⟨w3.heap.size, 0, none⟩) NE.out _ | refine blk_far ?_ (p := ⟨w3.heap.size, 1, none⟩) NE.out _ | refine blk_far ?_ (p := ⟨w3.heap.size, 2, none⟩) NE.out _)); exact Bgr.out⟩, ⟨by (with_reducible repeat (first | refine blk_drewN ?_ _ | refine blk_drew ?_ | refine blk_alloc ?_ _)); refine blk_put (cs := #[.int .i64 0, .int .i64 0, .int .i64 0]) ?_ 2 _ rfl; (with_reducible repeat (first | refine blk_drewN ?_ _ | refine blk_drew ?_ | refine blk_alloc ?_ _)); refine blk_put (cs := #[.int .i64 0, .int .i64 0, .int .i64 0]) ?_ 1 _ rfl; (with_reducible repeat (first | refine blk_drewN ?_ _ | refine blk_drew ?_ | refine blk_alloc ?_ _)); refine blk_put (cs := #[.int .i64 0, .int .i64 0, .int .i64 0]) ?_ 0 _ rfl; (with_reducible repeat (first | refine blk_drewN ?_ _ | refine blk_drew ?_ | refine blk_alloc ?_ _)); exact Bgb.out⟩, ⟨kB1 HB GB⟩⟩
          · rw [if_neg z] at hkt
            have KT := Aside0.mk hkt
            have H4 := H3.out
            unfold treesTail at H4
            rw [← ST.out, if_neg z] at H4
            obtain ⟨rfl, H5⟩ := Prod.mk.inj H4
            obtain ⟨H6, rfl⟩ := Prod.mk.inj H5
            obtain rfl : x = r2 := XN.out.trans H6
            clear z H3 H4 H5 H6 XN ST hkt
            go_wp2_with (first | (go_at_call 11; refine (thicketref08_tree.calls kt nm AF cF fs outs AB cB bs AT cT ts x v1 x v2 true _ (Kd.C_below hfs.out (kB0 HB)) hcF.out (Kd.C_below hbs.out (kB0 HB)) hcB.out (Kd.C_below hts.out (kB0 HB)) hcT.out KT.out).mono ?_; rintro e w5 ⟨rfl, hb⟩; have n1_ := Aside0.mk (below_step (kB0 HB) hb); have mge_ := Aside0.mk (blk_below (kb Bge) hb); have mgr_ := Aside0.mk (blk_below (kb Bgr) hb); have mgb_ := Aside0.mk (blk_below (kb Bgb) hb); clear HB Bge Bgr Bgb; have HB := n1_; have Bge := mge_; have Bgr := mgr_; have Bgb := mgb_; clear n1_ mge_ mgr_ mgb_; clear hb he; have hgb := blk3 (w := w5) Bgb.out; have hgr := fun u1 u2 u3 => blk3 (w := ((w5.setCell ⟨w3.heap.size, 0, none⟩ u1).setCell ⟨w3.heap.size, 1, none⟩ u2).setCell ⟨w3.heap.size, 2, none⟩ u3) (blk_far (blk_far (blk_far Bgr.out (p := ⟨w3.heap.size, 0, none⟩) NE.out u1) (p := ⟨w3.heap.size, 1, none⟩) NE.out u2) (p := ⟨w3.heap.size, 2, none⟩) NE.out u3)))
            refine bodyPost_ret (results_cell_row rfl _ _ gr 30 #[.int .i64 v1, .int .i64 x, .int .i64 v2] (0, 0) _ rfl (by (with_reducible repeat (first | refine blk_drewN ?_ _ | refine blk_drew ?_ | refine blk_alloc ?_ _)); refine blk_put (cs := #[.int .i64 v1, .int .i64 x, .int .i64 0]) ?_ 2 _ rfl; (with_reducible repeat (first | refine blk_drewN ?_ _ | refine blk_drew ?_ | refine blk_alloc ?_ _)); refine blk_put (cs := #[.int .i64 v1, .int .i64 0, .int .i64 0]) ?_ 1 _ rfl; (with_reducible repeat (first | refine blk_drewN ?_ _ | refine blk_drew ?_ | refine blk_alloc ?_ _)); refine blk_put (cs := #[.int .i64 0, .int .i64 0, .int .i64 0]) ?_ 0 _ rfl; (with_reducible repeat (first | refine blk_drewN ?_ _ | refine blk_drew ?_ | refine blk_alloc ?_ _)); (with_reducible repeat (first | refine blk_drewN ?_ _ | refine blk_drew ?_ | refine blk_alloc ?_ _ | refine blk_far ?_ (p := ⟨w3.heap.size, 0, none⟩) NE.out _ | refine blk_far ?_ (p := ⟨w3.heap.size, 1, none⟩) NE.out _ | refine blk_far ?_ (p := ⟨w3.heap.size, 2, none⟩) NE.out _)); exact Bgr.out) Tryd.underlying30 rfl (by kernel_rfl)) rfl ?_; exact ⟨rfl, kB2 HB Ggr GB⟩
end
end Go.Proofs.YtkemfbocojoagaaDoor.FAll
