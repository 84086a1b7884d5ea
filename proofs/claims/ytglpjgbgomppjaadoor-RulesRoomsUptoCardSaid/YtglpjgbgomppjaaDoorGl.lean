/-
  The law RulesRooms: its walk.
-/
import Derived.Test.YtglpjgbgomppjaaDoorGb
import Derived.Test.YtglpjgbgomppjaaDoorGr
import Derived.Test.YtglpjgbgomppjaaDoorPx
namespace Go.Proofs.YtglpjgbgomppjaaDoor.FAll
open Go.RowKit Go.Shelf Go.Maps Go.WideMaps Go.Proofs.YtglpjgbgomppjaaDoorW.PrintWords Go.Proofs.YtglpjgbgomppjaaDoorW.PrintLast Go.Proofs.YtglpjgbgomppjaaDoorW.PrintMore
set_option linter.unusedVariables false
set_option linter.unusedSimpArgs false
theorem kC1 {w w' : World} {A : Option Addr} {xs : List Int} (h : Aside0 (Kd.C (Kd.int .u32) w A xs.length xs)) (k : Kd.C (Kd.int .u32) w A xs.length xs → Kd.C (Kd.int .u32) w' A xs.length xs := by intro h_; (with_reducible repeat (first | refine Kd.C_alloc ?_ _ | refine Kd.C_drewN ?_ _ | refine Kd.C_drew ?_)); exact h_) : Kd.C (Kd.int .u32) w' A xs.length xs := k h.out
theorem sameL_ev (l : List Int) (hl : l.length ≤ 9223372036854775807) : ∀ d i : Nat, i + d = l.length → Ev (fun k => thicketref01_Same.l0 k l l (l.length : Int) (i : Int)) true := by
  intro d
  induction d with
  | zero =>
    intro i hi
    refine Ev.step (f := fun k => _) (fun k => rfl) ?_
    refine evn (by omega) ?_
    exact Ev.now _
  | succ d ih =>
    intro i hi
    refine Ev.step (f := fun k => _) (fun k => rfl) ?_
    have e1 : wrap64 ((i : Int) + 1) = ((i + 1 : Nat) : Int) := by unfold wrap64; omega
    refine evp (by omega) (evp (by omega) (evp (by omega) (evp (by omega) (evp rfl ?_))))
    rw [e1]
    exact ih (i + 1) (by omega)
theorem sameL_total (l : List Int) (hl : l.length ≤ 9223372036854775807) : ∃ k, thicketref01_Same.f k l l = some true := by
  obtain ⟨k, hk⟩ := (sameL_ev l hl l.length 0 (by omega)).rounds
  refine ⟨k, ?_⟩
  unfold thicketref01_Same.f
  rw [if_pos rfl]
  exact hk
theorem refLargest_total (t0 : Int) (ns : List S40) (hl : ns.length ≤ 9223372036854775807) : ∃ k, thicketref08_Largest.f k t0 ns = some (largestV ns) := (refLargest_ev t0 ns hl ns.length 0 0 (by omega)).rounds
/-- What Room answers is the document's. -/
theorem roomV_ref (nm : ByteArray) (fs : List ByteArray) (outs : Int) (bs : List Int) (ts : List S33) (x : Int) (hts : TreesOk ts) (hl : ts.length ≤ 4398046511104) (hbl : bs.length ≤ 17592186044416) : ∃ k, thicketref08_Room.f k nm fs outs bs ts x = some (roomV bs ts x) := by
  unfold roomV
  by_cases h : 0 ≤ x ∧ x < (bs.length : Int)
  · rw [if_pos h]
    obtain ⟨n, rfl⟩ := Int.eq_ofNat_of_zero_le h.1
    obtain ⟨⟨k, hk⟩, _⟩ := room_total nm fs outs bs ts hts hl n (by omega) hbl
    rw [rooms_strip] at hk
    rw [Int.toNat_natCast]
    exact ⟨k, hk⟩
  · rw [if_neg h]
    refine Ev.rounds (g := fun k => thicketref08_Room.f k nm fs outs bs ts x) ?_
    unfold thicketref08_Room.f
    by_cases h2 : x < 0
    · refine evp h2 ?_
      refine Ev.step (f := fun k => _) (fun k => rfl) ?_
      exact Ev.now _
    · refine evn h2 ?_
      rw [decide_eq_true (by omega : x ≥ (bs.length : Int))]
      refine Ev.step (f := fun k => _) (fun k => rfl) ?_
      exact Ev.now _
section
variable (nm : ByteArray) (AF : Option Addr) (cF : Nat) (fs : List ByteArray) (outs : Int) (AB : Option Addr) (cB : Nat) (bs : List Int) (AT : Option Addr) (cT : Nat) (ts : List S33) (x : Int)
set_option maxHeartbeats 16000000 in
set_option maxRecDepth 100000 in
theorem rooms_law_at (w : World) (hfs : Aside0 (Kd.C Kd.string w AF fs.length fs)) (hbs : Aside0 (Kd.C (Kd.int .i64) w AB bs.length bs)) (hts : Aside0 (Kd.C k33 w AT ts.length ts)) (htab : Aside0 (Tab w))
    (hcF : Aside0 (fs.length ≤ cF)) (hcB : Aside0 (bs.length ≤ cB)) (hcT : Aside0 (ts.length ≤ cT)) (hbl : Aside0 (bs.length ≤ 1000000000000)) (htl : Aside0 (ts.length ≤ 5000000000000)) (hok : Aside0 (TreesOk ts))
    (r : List Int) (why : Int) (kr : Nat) (KR : Aside0 (thicketref08_Room.f kr nm fs outs bs ts x = some (r, why))) (HR : Aside0 (r = (roomV bs ts x).1)) (HW : Aside0 (why = (roomV bs ts x).2)) (hrl : r.length ≤ 9223372036854775807) :
    Calls Tryd.prog 4 #[.agg #[.string nm, .slice AF fs.length cF, .int .i64 outs, .slice AB bs.length cB, .slice AT ts.length cT], .int .i64 x] w fun e w' => e = .returned (.bool true) ∧ Below w.heap.size w w' := by
  have HB := Aside0.mk (Below.refl w.heap.size w)
  obtain ⟨ks, hks⟩ := sameL_total r hrl
  have KS := Aside0.mk hks
  clear hks hrl
  go_enter Tryd.func4, Tryd.ntmps4
  go_wp2_with (first | ((with_reducible refine gate_dst (N := 2) rfl ?_); refine box_event ?hg (N := 2) ?hd (cs := #[.string nm, .slice AF fs.length cF, .int .i64 outs, .slice AB bs.length cB, .slice AT ts.length cT]) (t := 26) ?hr ?_; (case hd => rfl); (case hg => rfl); (case hr => first | (go_simp; done) | (go_simp; rfl)); intro ge hg w1 hbox hb; have n0_ := Aside0.mk (below_step (kB0 HB) hb); have Bge := Aside0.mk hbox; clear HB; have HB := n0_; clear n0_ hb hbox hg; have he := blk5 (w := w1) Bge.out) | (go_at_call 10; refine (rules_Room.calls nm AF cF fs outs AB cB bs AT cT ts x _ ⟨Kd.C_below hbs.out (kB0 HB)⟩ ⟨Kd.C_below hts.out (kB0 HB)⟩ hbl htl).mono ?_; rintro e w2 ⟨A1, c1, rfl, g1, l1, _, hb⟩; have G1 := Aside0.mk (show Kd.C (Kd.int .u32) w2 A1 r.length r by rw [HR.out]; exact g1); have L1 := Aside0.mk (show r.length ≤ c1 by rw [HR.out]; first | exact l1 | exact Nat.le_of_eq l1.symm); clear g1 l1; have n1_ := Aside0.mk (below_step (kB0 HB) hb); have mge_ := Aside0.mk (blk_below (kb Bge) hb); clear HB he Bge; have HB := n1_; have Bge := mge_; clear n1_ mge_ hb; have he := blk5 (w := w2) Bge.out; rw [← HR.out, ← HW.out]) | (go_at_call 11; refine (thicketref08_Room.calls kr nm AF cF fs outs AB cB bs AT cT ts x r why _ (Kd.C_below hfs.out (kB0 HB)) hcF.out (Kd.C_below hbs.out (kB0 HB)) hcB.out (Kd.C_below hts.out (kB0 HB)) hcT.out KR.out).mono ?_; rintro e w3 ⟨v0_, rfl, R0, hb⟩; obtain ⟨A2, c2, rfl, l2, g2⟩ := Kd.R_reads R0; have G2 := Aside0.mk g2; have L2 := Aside0.mk l2; have q1_ := Aside0.mk (Kd.C_below (kC1 G1) hb); clear R0 g2 l2 G1; have G1 := q1_; clear q1_; have n1_ := Aside0.mk (below_step (kB0 HB) hb); have mge_ := Aside0.mk (blk_below (kb Bge) hb); clear HB he Bge; have HB := n1_; have Bge := mge_; clear n1_ mge_ hb; have he := blk5 (w := w3) Bge.out) | (go_at_call 12; refine (thicketref01_Same.calls ks A1 c1 r A2 c2 r true _ (kC1 G1) L1.out (kC1 G2) L2.out KS.out).mono ?_; rintro e w4 ⟨rfl, ⟨⟨nd, rfl⟩⟩⟩))
  clear he G1 G2
  go_loopg [9] (ts.length + 1) (fun kq v9 w' => ∃ (z : Int) (n : Nat), v9 = .int .i64 z ∧ Aside0 (z = n) ∧ Aside0 (n ≤ ts.length) ∧ Aside0 (ts.length - n < kq) ∧ Aside0 (w'.heap[ge]? = some (.cells #[.string nm, .slice AF fs.length cF, .int .i64 outs, .slice AB bs.length cB, .slice AT ts.length cT] 26 (0, 0))) ∧ Aside0 (Below w.heap.size w w'))
  case atStart => exact ⟨0, 0, rfl, ⟨rfl⟩, ⟨Nat.zero_le _⟩, ⟨by omega⟩, ⟨kb Bge⟩, ⟨kB0 HB⟩⟩
  case round =>
    clear HB Bge
    obtain ⟨z, n, rfl, hx, hn, hk, Bge, HB⟩ := hrel
    cases gk with
    | zero => exact absurd hk.out (by omega)
    | succ k1 =>
      have he := blk5 (w := wr) Bge.out
      have hxx := hx.out
      have hnn := hn.out
      by_cases hend : n = ts.length
      · have cnd : decide (z < (ts.length : Int)) = false := decide_eq_false (by omega)
        clear hxx hnn hend
        go_wp2_with (first | (go_at_call 15; refine (begins.calls _ ⟨tab_below htab.out (kB0 HB)⟩).mono ?_; rintro e w9 ⟨rfl, hb⟩; have n1_ := Aside0.mk (below_step (kB0 HB) hb); clear HB hb; have HB := n1_; clear n1_))
        go_ret
        exact ⟨rfl, kB0 HB⟩
      · have cnd : decide (z < (ts.length : Int)) = true := decide_eq_true (by omega)
        have p1 : 0 ≤ z := by omega
        have p2 : z < (ts.length : Int) := by omega
        have hlt : n < ts.length := by omega
        obtain ⟨ad, A4, c4, rfl, e0, e1, l4, g4⟩ := at_T33 hts.out z p1 p2
        obtain ⟨y, hy⟩ : ∃ y, y = rd_T33 ts z := ⟨_, rfl⟩
        rw [← hy] at e0 e1 l4 g4
        replace e0 := (HB.out.cell (World.block_lt_of_cell? w _ e0)).trans e0
        replace e1 := (HB.out.cell (World.block_lt_of_cell? w _ e1)).trans e1
        have hlen : y.f1.length ≤ 9223372036854775807 := (show ReadsRow _ _ _ _ _ _ from g4).2.1
        obtain ⟨kL, hkL⟩ := largest_total y.f0 y.f1 hlen
        obtain ⟨kM, hkM⟩ := refLargest_total y.f0 y.f1 hlen
        obtain ⟨v, hv⟩ : ∃ v, v = largestV y.f1 := ⟨_, rfl⟩
        rw [← hv] at hkL hkM
        have KL := Aside0.mk hkL
        have KM := Aside0.mk hkM
        have G4 := Aside0.mk g4
        have L4 := Aside0.mk l4
        have HLT := Aside0.mk hlt
        have XN := Aside0.mk hxx
        replace p1 := eq_true p1
        replace p2 := eq_true p2
        clear hxx hnn hend hlt hy hv hkL hkM g4 l4 hlen
        go_wp2
        refine start_ (n := 13) (S := fun w' => w'.cell? ⟨ge, 4, none⟩ = some (.slice (some ad) ts.length cT) ∧ w'.cell? (ad.add (z.toNat * 2)) = some (.int .i64 y.f0) ∧ w'.cell? ⟨(ad.add (z.toNat * 2)).block, (ad.add (z.toNat * 2)).off + 1, none⟩ = some (.slice A4 y.f1.length c4)) (ds := []) #[false, false, false, false, false, false, false, false, false, false, false, false, false] (by kernel_rfl) rfl rfl ⟨((blk_cell (blk_drew Bge.out) 4).trans rfl), e0, e1⟩ (fun hHeld => ?_)
        refine pure_ (i := 0) (N := some 38) (v := ?_) (a' := ?_) #[true, false, false, false, false, false, false, false, false, false, false, false, false] rfl rfl (by kernel_rfl) (fun _ _ _ h => h) (Or.inl ⟨by rfl, ?_⟩) ?_ ?_
        rotate_left
        · intro w'
          go_simp
          with_reducible rfl
        rotate_left
        · simp only [Act.put, List.setIfInBounds_toArray, List.set_cons_zero, List.set_cons_succ, i64_w, i32_w]
          rfl
        refine pure_ (i := 2) (N := some 40) (v := ?_) (a' := ?_) #[true, false, true, false, false, false, false, false, false, false, false, false, false] rfl rfl (by kernel_rfl) (fun _ _ _ h => h) (Or.inl ⟨by rfl, ?_⟩) ?_ ?_
        rotate_left
        · intro w'
          go_simp
          with_reducible rfl
        rotate_left
        · simp only [Act.put, List.setIfInBounds_toArray, List.set_cons_zero, List.set_cons_succ, i64_w, i32_w]
          rfl
        refine pure_ (i := 6) (N := some 44) (v := ?_) (a' := ?_) #[true, false, true, false, false, false, true, false, false, false, false, false, false] rfl rfl (by kernel_rfl) (fun _ _ _ h => h) (Or.inl ⟨by rfl, ?_⟩) ?_ ?_
        rotate_left
        · intro w'
          go_simp
          with_reducible rfl
        rotate_left
        · simp only [Act.put, List.setIfInBounds_toArray, List.set_cons_zero, List.set_cons_succ, i64_w, i32_w]
          rfl
        refine pure_ (i := 8) (N := some 46) (v := ?_) (a' := ?_) #[true, false, true, false, false, false, true, false, true, false, false, false, false] rfl rfl (by kernel_rfl) (fun _ _ _ h => h) (Or.inl ⟨by rfl, ?_⟩) ?_ ?_
        rotate_left
        · intro w'
          go_simp
          with_reducible rfl
        rotate_left
        · simp only [Act.put, List.setIfInBounds_toArray, List.set_cons_zero, List.set_cons_succ, i64_w, i32_w]
          rfl
        refine take_ (i := 1) (N := some 39) (v := ?_) (a' := ?_) #[true, true, true, false, false, false, true, false, true, false, false, false, false] rfl rfl (by kernel_rfl) (fun _ _ _ h => h) (Or.inl ⟨by rfl, ?_⟩) hHeld ?_ ?_
        rotate_left
        · rintro w' ⟨s0, s1, s2⟩
          go_simp
          with_reducible rfl
        rotate_left
        · simp only [Act.put, List.setIfInBounds_toArray, List.set_cons_zero, List.set_cons_succ, i64_w, i32_w]
          rfl
        refine pure_ (i := 3) (N := some 41) (v := ?_) (a' := ?_) #[true, true, true, true, false, false, true, false, true, false, false, false, false] rfl rfl (by kernel_rfl) (fun _ _ _ h => h) (Or.inl ⟨by rfl, ?_⟩) ?_ ?_
        rotate_left
        · intro w'
          go_simp
          with_reducible rfl
        rotate_left
        · simp only [Act.put, List.setIfInBounds_toArray, List.set_cons_zero, List.set_cons_succ, i64_w, i32_w]
          rfl
        refine take_ (i := 4) (N := some 42) (v := ?_) (a' := ?_) #[true, true, true, true, true, false, true, false, true, false, false, false, false] rfl rfl (by kernel_rfl) (fun _ _ _ h => h) (Or.inl ⟨by rfl, ?_⟩) hHeld ?_ ?_
        rotate_left
        · rintro w' ⟨s0, s1, s2⟩
          go_simp
          with_reducible rfl
        rotate_left
        · simp only [Act.put, List.setIfInBounds_toArray, List.set_cons_zero, List.set_cons_succ, i64_w, i32_w]
          rfl
        refine take_ (i := 7) (N := some 45) (v := ?_) (a' := ?_) #[true, true, true, true, true, false, true, true, true, false, false, false, false] rfl rfl (by kernel_rfl) (fun _ _ _ h => h) (Or.inl ⟨by rfl, ?_⟩) hHeld ?_ ?_
        rotate_left
        · rintro w' ⟨s0, s1, s2⟩
          go_simp
          with_reducible rfl
        rotate_left
        · simp only [Act.put, List.setIfInBounds_toArray, List.set_cons_zero, List.set_cons_succ, i64_w, i32_w]
          rfl
        refine pure_ (i := 9) (N := some 47) (v := ?_) (a' := ?_) #[true, true, true, true, true, false, true, true, true, true, false, false, false] rfl rfl (by kernel_rfl) (fun _ _ _ h => h) (Or.inl ⟨by rfl, ?_⟩) ?_ ?_
        rotate_left
        · intro w'
          go_simp
          with_reducible rfl
        rotate_left
        · simp only [Act.put, List.setIfInBounds_toArray, List.set_cons_zero, List.set_cons_succ, i64_w, i32_w]
          rfl
        refine take_ (i := 10) (N := some 48) (v := ?_) (a' := ?_) #[true, true, true, true, true, false, true, true, true, true, true, false, false] rfl rfl (by kernel_rfl) (fun _ _ _ h => h) (Or.inl ⟨by rfl, ?_⟩) hHeld ?_ ?_
        rotate_left
        · rintro w' ⟨s0, s1, s2⟩
          go_simp
          with_reducible rfl
        rotate_left
        · simp only [Act.put, List.setIfInBounds_toArray, List.set_cons_zero, List.set_cons_succ, i64_w, i32_w]
          rfl
        refine one_ (i := 5) (N := some 43) #[true, true, true, true, true, true, true, true, true, true, true, false, false] rfl rfl (by kernel_rfl) (by decide) (fun K hK => ?_)
        refine goes_ Tryd.func13 (by kernel_rfl) rfl #[.agg #[.int .i64 y.f0, .slice A4 y.f1.length c4]] (by rfl) rfl rfl (by (try simp only [List.map_toArray, List.map_cons, List.map_nil]); first | done | rfl) ?_
        refine (rules_Largest.calls kL y.f0 A4 c4 y.f1 v _ (Kd.C_below G4.out (kB0 HB)) L4.out KL.out).mono ?_
        rintro e w5 ⟨rfl, hb⟩
        refine ⟨_, rfl, ?_⟩
        have n1_ := Aside0.mk (below_step (kB0 HB) hb)
        have m1_ := Aside0.mk (blk_below (kb Bge) hb)
        have q0 := (hb.cell (World.block_lt_of_cell? _ _ hHeld.1)).trans hHeld.1
        have q1 := (hb.cell (World.block_lt_of_cell? _ _ hHeld.2.1)).trans hHeld.2.1
        have q2 := (hb.cell (World.block_lt_of_cell? _ _ hHeld.2.2)).trans hHeld.2.2
        clear HB Bge hHeld
        have HB := n1_
        have Bge := m1_
        clear n1_ m1_ hb
        refine hK.out _ _ ⟨q0, q1, q2⟩ (fun hHeld => ?_)
        clear hK K
        refine norm_ (a' := ?_) ?_ ?_
        rotate_left
        · show Act.put _ (some 43) _ = _
          simp only [Act.put, List.setIfInBounds_toArray, List.set_cons_zero, List.set_cons_succ, i64_w, i32_w]
          rfl
        refine one_ (i := 11) (N := some 49) #[true, true, true, true, true, true, true, true, true, true, true, true, false] rfl rfl (by kernel_rfl) (by decide) (fun K hK => ?_)
        refine goes_ Tryd.func14 (by kernel_rfl) rfl #[.agg #[.int .i64 y.f0, .slice A4 y.f1.length c4]] (by rfl) rfl rfl (by (try simp only [List.map_toArray, List.map_cons, List.map_nil]); first | done | rfl) ?_
        refine (thicketref08_Largest.calls kM y.f0 A4 c4 y.f1 v _ (Kd.C_below G4.out (kB0 HB)) L4.out KM.out).mono ?_
        rintro e w6 ⟨rfl, hb⟩
        refine ⟨_, rfl, ?_⟩
        have n1_ := Aside0.mk (below_step (kB0 HB) hb)
        have m1_ := Aside0.mk (blk_below (kb Bge) hb)
        have q0 := (hb.cell (World.block_lt_of_cell? _ _ hHeld.1)).trans hHeld.1
        have q1 := (hb.cell (World.block_lt_of_cell? _ _ hHeld.2.1)).trans hHeld.2.1
        have q2 := (hb.cell (World.block_lt_of_cell? _ _ hHeld.2.2)).trans hHeld.2.2
        clear HB Bge hHeld
        have HB := n1_
        have Bge := m1_
        clear n1_ m1_ hb
        refine hK.out _ _ ⟨q0, q1, q2⟩ (fun hHeld => ?_)
        clear hK K
        refine norm_ (a' := ?_) ?_ ?_
        rotate_left
        · show Act.put _ (some 49) _ = _
          simp only [Act.put, List.setIfInBounds_toArray, List.set_cons_zero, List.set_cons_succ, i64_w, i32_w]
          rfl
        refine pure_ (i := 12) (N := some 50) (v := ?_) (a' := ?_) #[true, true, true, true, true, true, true, true, true, true, true, true, true] rfl rfl (by kernel_rfl) (fun _ _ _ h => h) (Or.inl ⟨by rfl, ?_⟩) ?_ ?_
        rotate_left
        · intro w'
          go_simp
          with_reducible rfl
        rotate_left
        · simp only [Act.put, List.setIfInBounds_toArray, List.set_cons_zero, List.set_cons_succ, i64_w, i32_w]
          rfl
        refine done_ (by kernel_rfl) ?_

        go_wp2
        go_roundg k1
        case measure => have := hk.out; omega
        case rel => exact ⟨_, n + 1, rfl, ⟨by have := XN.out; have := HLT.out; have := htl.out; unfold wrap64; omega⟩, ⟨HLT.out⟩, ⟨by have := hk.out; have := HLT.out; omega⟩, ⟨kb Bge⟩, ⟨kB0 HB⟩⟩
end
end Go.Proofs.YtglpjgbgomppjaaDoor.FAll
