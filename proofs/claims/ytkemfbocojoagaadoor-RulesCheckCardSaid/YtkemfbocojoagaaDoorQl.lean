/-
  The law RulesCheck: its walk.
-/
import Derived.Test.YtkemfbocojoagaaDoorRv
import Derived.Test.YtkemfbocojoagaaDoorQc
import Derived.Test.YtkemfbocojoagaaDoorQs
namespace Go.Proofs.YtkemfbocojoagaaDoor.FAll
open Go.RowKit Go.Shelf Go.Maps Go.WideMaps Go.Proofs.YtkemfbocojoagaaDoorW.PrintWords Go.Proofs.YtkemfbocojoagaaDoorW.PrintLast Go.Proofs.YtkemfbocojoagaaDoorW.PrintMore
set_option linter.unusedVariables false
set_option linter.unusedSimpArgs false
section
variable (nm : ByteArray) (AF : Option Addr) (cF : Nat) (fs : List ByteArray) (outs : Int) (AB : Option Addr) (cB : Nat) (bs : List Int) (AT : Option Addr) (cT : Nat) (ts : List S36)
set_option maxHeartbeats 16000000 in
set_option maxRecDepth 100000 in
theorem law_at (sh : S36 → Int × Int) (w : World) (hfs : Aside0 (Kd.C Kd.string w AF fs.length fs)) (hsz : Aside0 (∀ s ∈ fs, s.size ≤ maxLen)) (hnm : Aside0 (nm.size ≤ maxLen)) (hbs : Aside0 (Kd.C (Kd.int .i64) w AB bs.length bs)) (hts : Aside0 (Kd.C k36 w AT ts.length ts)) (htab : Aside0 (Tab w))
    (hcF : Aside0 (fs.length ≤ cF)) (hcB : Aside0 (bs.length ≤ cB)) (hcT : Aside0 (ts.length ≤ cT)) (hsh : Aside0 (∀ y ∈ ts, ∃ k, 1 ≤ y.f1.length → trees_Shape.f k y.f0 y.f1 = some ((sh y).1, (sh y).2)))
    (kc : Nat) (KC : Aside0 (thicketref07_Copy.f kc nm fs outs bs ts = some (nm, fs, outs, bs, ts)))
    (htree : Aside0 (ts.length ≤ 65536 → ∀ n : Nat, n < ts.length → ∃ k, thicketref08_tree.f k nm fs outs bs ts (n : Int) = some (refTreeV (treeV fs.length outs (rd_T36 ts (n : Int)).f0 (rd_T36 ts (n : Int)).f1 (sh (rd_T36 ts (n : Int)))) n)))
    (mR : List Int) (kf : Nat) (KF : Aside0 (thicketref01_From.f kf 4611686018427387904 = some mR)) (rm : Nat → List Int)
    (hroom : Aside0 (ts.length ≤ 65536 → ∀ n : Nat, n < bs.length → (∃ k, thicketref08_Room.f k nm fs outs bs ts (n : Int) = some (rm n, 0)) ∧ ∃ k, thicketref01_Cmp.f k (rm n) mR = some (cmpL (strip ((roomsL bs ts).getD n [])) (strip mostL))))
    (r1 r2 r3 : Int) (H : Aside0 (checkV sh nm fs outs bs ts = (r1, r2, r3))) (hz : r1 = 0 → r2 = 0 ∧ r3 = 0) :
    Calls Tryd.prog 3 #[.agg #[.string nm, .slice AF fs.length cF, .int .i64 outs, .slice AB bs.length cB, .slice AT ts.length cT]] w fun e w' => e = .returned (.bool true) ∧ Below w.heap.size w w' := by
  have HB := Aside0.mk (Below.refl w.heap.size w)
  obtain ⟨vb, hvb⟩ : ∃ vb, (r1 == 0) = vb := ⟨_, rfl⟩
  have HD := Aside0.mk (show decide (r1 = 0 ∧ r2 = 0 ∧ r3 = 0) = vb by
    rw [← hvb]
    by_cases z : r1 = 0
    · obtain ⟨z2, z3⟩ := hz z
      rw [decide_eq_true ⟨z, z2, z3⟩, beq_iff_eq.mpr z]
    · rw [decide_eq_false (fun h => z h.1), beq_eq_false_iff_ne.mpr z])
  clear hz
  go_enter Tryd.func3, Tryd.ntmps3
  go_wp2_with (first | ((with_reducible refine gate_dst (N := 1) rfl ?_); refine box_event ?hg (N := 1) ?hd (cs := #[.string nm, .slice AF fs.length cF, .int .i64 outs, .slice AB bs.length cB, .slice AT ts.length cT]) (t := 26) ?hr ?_; (case hd => rfl); (case hg => rfl); (case hr => first | (go_simp; done) | (go_simp; rfl)); intro ge hg w1 hbox hb; have n0_ := Aside0.mk (below_step (kB0 HB) hb); have Bge := Aside0.mk hbox; clear HB; have HB := n0_; clear n0_ hb hbox hg; have he := blk5 (w := w1) Bge.out) | (go_at_call 4; refine (thicketref07_Copy.calls kc nm AF cF fs outs AB cB bs AT cT ts nm fs outs bs ts _ (Kd.C_below hfs.out (kB0 HB)) hcF.out (Kd.C_below hbs.out (kB0 HB)) hcB.out (Kd.C_below hts.out (kB0 HB)) hcT.out KC.out).mono ?_; rintro e w3 ⟨v1_, v3_, v4_, rfl, R1, R3, R4, hb⟩; obtain ⟨A1, c1, rfl, l1, g1⟩ := Kd.R_reads R1; obtain ⟨A3, c3, rfl, l3, g3⟩ := Kd.R_reads R3; obtain ⟨A4, c4, rfl, l4, g4⟩ := Kd.R_reads R4; have G1 := Aside0.mk g1; have G3 := Aside0.mk g3; have G4 := Aside0.mk g4; have n1_ := Aside0.mk (below_step (kB0 HB) hb); have m1_ := Aside0.mk (blk_below (kb Bge) hb); clear HB Bge he R1 R3 R4 l1 l3 l4 g1 g3 g4 hb; have HB := n1_; have Bge := m1_; clear n1_ m1_; have he2 := fun o => blk5 (w := w3.alloc o) (blk_alloc Bge.out o)) | (go_at_call 5; refine (refCheck.calls nm AF cF fs outs AB cB bs AT cT ts sh _ ⟨Kd.C_below hfs.out (kB0 HB)⟩ hsz hnm ⟨Kd.C_below hbs.out (kB0 HB)⟩ ⟨Kd.C_below hts.out (kB0 HB)⟩ hcF hcB hcT htree mR kf KF rm hroom r1 r2 r3 H).mono ?_; rintro e w4 ⟨rfl, hb⟩; have n1_ := Aside0.mk (below_step (kB0 HB) hb); have m1_ := Aside0.mk (blk_below (kb Bge) hb); have Bgi := Aside0.mk (blk_below (blk_new w3 _) hb); have HB3 := Aside0.mk (below_step (below_alloc (Below.refl w3.heap.size w3) _) hb); clear HB Bge he2 hb; have HB := n1_; have Bge := m1_; clear n1_ m1_))
  have VC := Aside0.mk (show ∀ W, Below w.heap.size w W → Below w3.heap.size w3 W → Calls Tryd.prog 7 #[.agg #[.string nm, .slice A1 fs.length c1, .int .i64 outs, .slice A3 bs.length c3, .slice A4 ts.length c4]] W fun e w' => e = .returned (.bool vb) ∧ Below W.heap.size W w' from fun W h1 h3 => by
    rw [← HD.out]
    exact rules_Valid.calls nm A1 c1 fs outs A3 c3 bs A4 c4 ts sh W ⟨Kd.C_below G1.out h3⟩ hsz ⟨Kd.C_below G3.out h3⟩ ⟨Kd.C_below G4.out h3⟩ ⟨tab_below htab.out h1⟩ hsh r1 r2 r3 H)
  have Bgb := Aside0.mk (blk_new w4 (.cells #[.int .i64 r1, .int .i64 r2, .int .i64 r3] 30 (0, 0)))
  refine start_ (n := 18) (S := fun w' => w'.cell? ⟨w3.heap.size, 0, none⟩ = some (.string nm) ∧ w'.cell? ⟨w3.heap.size, 1, none⟩ = some (.slice A1 fs.length c1) ∧ w'.cell? ⟨w3.heap.size, 2, none⟩ = some (.int .i64 outs) ∧ w'.cell? ⟨w3.heap.size, 3, none⟩ = some (.slice A3 bs.length c3) ∧ w'.cell? ⟨w3.heap.size, 4, none⟩ = some (.slice A4 ts.length c4) ∧ w'.cell? ⟨w4.heap.size, 0, none⟩ = some (.int .i64 r1) ∧ w'.cell? ⟨w4.heap.size, 1, none⟩ = some (.int .i64 r2) ∧ w'.cell? ⟨w4.heap.size, 2, none⟩ = some (.int .i64 r3) ∧ w'.cell? ⟨ge, 0, none⟩ = some (.string nm) ∧ w'.cell? ⟨ge, 1, none⟩ = some (.slice AF fs.length cF) ∧ w'.cell? ⟨ge, 2, none⟩ = some (.int .i64 outs) ∧ w'.cell? ⟨ge, 3, none⟩ = some (.slice AB bs.length cB) ∧ w'.cell? ⟨ge, 4, none⟩ = some (.slice AT ts.length cT)) (ds := []) #[false, false, false, false, false, false, false, false, false, false, false, false, false, false, false, false, false, false] (by kernel_rfl) rfl rfl ⟨((blk_cell (kb Bgi) 0).trans rfl), ((blk_cell (kb Bgi) 1).trans rfl), ((blk_cell (kb Bgi) 2).trans rfl), ((blk_cell (kb Bgi) 3).trans rfl), ((blk_cell (kb Bgi) 4).trans rfl), ((blk_cell (blk_drew Bgb.out) 0).trans rfl), ((blk_cell (blk_drew Bgb.out) 1).trans rfl), ((blk_cell (blk_drew Bgb.out) 2).trans rfl), ((blk_cell (kb Bge) 0).trans rfl), ((blk_cell (kb Bge) 1).trans rfl), ((blk_cell (kb Bge) 2).trans rfl), ((blk_cell (kb Bge) 3).trans rfl), ((blk_cell (kb Bge) 4).trans rfl)⟩ (fun hHeld => ?_)
  refine take_ (i := 0) (N := some 9) (v := ?_) (a' := ?_) #[true, false, false, false, false, false, false, false, false, false, false, false, false, false, false, false, false, false] rfl rfl (by kernel_rfl) (fun _ _ _ h => h) (Or.inl ⟨by rfl, ?_⟩) hHeld ?_ ?_
  rotate_left
  · rintro w' ⟨s0, s1, s2, s3, s4, s5, s6, s7, s8, s9, s10, s11, s12⟩
    go_simp
    with_reducible rfl
  rotate_left
  · simp only [Act.put, List.setIfInBounds_toArray, List.set_cons_zero, List.set_cons_succ, i64_w, i32_w]
    rfl
  refine take_ (i := 2) (N := some 11) (v := ?_) (a' := ?_) #[true, false, true, false, false, false, false, false, false, false, false, false, false, false, false, false, false, false] rfl rfl (by kernel_rfl) (fun _ _ _ h => h) (Or.inl ⟨by rfl, ?_⟩) hHeld ?_ ?_
  rotate_left
  · rintro w' ⟨s0, s1, s2, s3, s4, s5, s6, s7, s8, s9, s10, s11, s12⟩
    go_simp
    with_reducible rfl
  rotate_left
  · simp only [Act.put, List.setIfInBounds_toArray, List.set_cons_zero, List.set_cons_succ, i64_w, i32_w]
    rfl
  refine one_ (i := 1) (N := some 10) #[true, true, true, false, false, false, false, false, false, false, false, false, false, false, false, false, false, false] rfl rfl (by kernel_rfl) (by decide) (fun K hK => ?_)
  refine goes_ Tryd.func6 (by kernel_rfl) rfl #[.agg #[.string nm, .slice A1 fs.length c1, .int .i64 outs, .slice A3 bs.length c3, .slice A4 ts.length c4]] (by rfl) rfl rfl (by (try simp only [List.map_toArray, List.map_cons, List.map_nil]); first | done | rfl) ?_
  refine (rules_Check.calls nm A1 c1 fs outs A3 c3 bs A4 c4 ts sh _ ⟨Kd.C_below G1.out (kB0 HB3)⟩ hsz ⟨Kd.C_below G3.out (kB0 HB3)⟩ ⟨Kd.C_below G4.out (kB0 HB3)⟩ ⟨tab_below htab.out (kB0 HB)⟩ hsh r1 r2 r3 H).mono ?_
  rintro e w5 ⟨rfl, hb⟩
  refine ⟨_, rfl, ?_⟩
  have n1_ := Aside0.mk (below_step (kB0 HB) hb)
  have n3_ := Aside0.mk (below_step (kB0 HB3) hb)
  have mi_ := Aside0.mk (blk_below (kb Bgi) hb)
  have me_ := Aside0.mk (blk_below (kb Bge) hb)
  have mb_ := Aside0.mk (blk_below (by first | exact Bgb.out | exact blk_drew Bgb.out) hb)
  clear HB HB3 Bgi Bgb Bge hHeld
  have HB := n1_
  have HB3 := n3_
  have Bgi := mi_
  have Bgb := mb_
  have Bge := me_
  clear n1_ n3_ mi_ mb_ me_ hb
  refine hK.out _ _ ⟨((blk_cell Bgi.out 0).trans rfl), ((blk_cell Bgi.out 1).trans rfl), ((blk_cell Bgi.out 2).trans rfl), ((blk_cell Bgi.out 3).trans rfl), ((blk_cell Bgi.out 4).trans rfl), ((blk_cell Bgb.out 0).trans rfl), ((blk_cell Bgb.out 1).trans rfl), ((blk_cell Bgb.out 2).trans rfl), ((blk_cell Bge.out 0).trans rfl), ((blk_cell Bge.out 1).trans rfl), ((blk_cell Bge.out 2).trans rfl), ((blk_cell Bge.out 3).trans rfl), ((blk_cell Bge.out 4).trans rfl)⟩ (fun hHeld => ?_)
  clear hK K
  refine norm_ (a' := ?_) ?_ ?_
  rotate_left
  · show Act.put _ (some 10) _ = _
    simp only [Act.put, List.setIfInBounds_toArray, List.set_cons_zero, List.set_cons_succ, i64_w, i32_w]
    rfl
  refine pure_ (i := 3) (N := some 12) (v := ?_) (a' := ?_) #[true, true, true, true, false, false, false, false, false, false, false, false, false, false, false, false, false, false] rfl rfl (by kernel_rfl) (fun _ _ _ h => h) (Or.inl ⟨by rfl, ?_⟩) ?_ ?_
  rotate_left
  · intro w'
    go_simp
    with_reducible rfl
  rotate_left
  · simp only [Act.put, List.setIfInBounds_toArray, List.set_cons_zero, List.set_cons_succ, i64_w, i32_w]
    rfl
  refine pure_ (i := 4) (N := some 13) (v := ?_) (a' := ?_) #[true, true, true, true, true, false, false, false, false, false, false, false, false, false, false, false, false, false] rfl rfl (by kernel_rfl) (fun _ _ _ h => h) (Or.inl ⟨by rfl, ?_⟩) ?_ ?_
  rotate_left
  · intro w'
    go_simp
    with_reducible rfl
  rotate_left
  · simp only [Act.put, List.setIfInBounds_toArray, List.set_cons_zero, List.set_cons_succ, i64_w, i32_w]
    rfl
  refine pure_ (i := 7) (N := some 16) (v := ?_) (a' := ?_) #[true, true, true, true, true, false, false, true, false, false, false, false, false, false, false, false, false, false] rfl rfl (by kernel_rfl) (fun _ _ _ h => h) (Or.inl ⟨by rfl, ?_⟩) ?_ ?_
  rotate_left
  · intro w'
    go_simp
    with_reducible rfl
  rotate_left
  · simp only [Act.put, List.setIfInBounds_toArray, List.set_cons_zero, List.set_cons_succ, i64_w, i32_w]
    rfl
  refine take_ (i := 5) (N := some 14) (v := ?_) (a' := ?_) #[true, true, true, true, true, true, false, true, false, false, false, false, false, false, false, false, false, false] rfl rfl (by kernel_rfl) (fun _ _ _ h => h) (Or.inl ⟨by rfl, ?_⟩) hHeld ?_ ?_
  rotate_left
  · rintro w' ⟨s0, s1, s2, s3, s4, s5, s6, s7, s8, s9, s10, s11, s12⟩
    go_simp
    with_reducible rfl
  rotate_left
  · simp only [Act.put, List.setIfInBounds_toArray, List.set_cons_zero, List.set_cons_succ, i64_w, i32_w]
    rfl
  refine take_ (i := 8) (N := some 17) (v := ?_) (a' := ?_) #[true, true, true, true, true, true, false, true, true, false, false, false, false, false, false, false, false, false] rfl rfl (by kernel_rfl) (fun _ _ _ h => h) (Or.inl ⟨by rfl, ?_⟩) hHeld ?_ ?_
  rotate_left
  · rintro w' ⟨s0, s1, s2, s3, s4, s5, s6, s7, s8, s9, s10, s11, s12⟩
    go_simp
    with_reducible rfl
  rotate_left
  · simp only [Act.put, List.setIfInBounds_toArray, List.set_cons_zero, List.set_cons_succ, i64_w, i32_w]
    rfl
  refine pure_ (i := 9) (N := some 18) (v := ?_) (a' := ?_) #[true, true, true, true, true, true, false, true, true, true, false, false, false, false, false, false, false, false] rfl rfl (by kernel_rfl) (fun _ _ _ h => h) (Or.inl ⟨by rfl, ?_⟩) ?_ ?_
  rotate_left
  · intro w'
    go_simp
    with_reducible rfl
  rotate_left
  · simp only [Act.put, List.setIfInBounds_toArray, List.set_cons_zero, List.set_cons_succ, i64_w, i32_w]
    rfl
  refine one_ (i := 6) (N := some 15) #[true, true, true, true, true, true, true, true, true, true, false, false, false, false, false, false, false, false] rfl rfl (by kernel_rfl) (by decide) (fun K hK => ?_)
  refine goes_ Tryd.func7 (by kernel_rfl) rfl #[.agg #[.string nm, .slice A1 fs.length c1, .int .i64 outs, .slice A3 bs.length c3, .slice A4 ts.length c4]] (by rfl) rfl rfl (by (try simp only [List.map_toArray, List.map_cons, List.map_nil]); first | done | rfl) ?_
  refine ((VC.out _ (kB0 HB) (kB0 HB3))).mono ?_
  rintro e w6 ⟨rfl, hb⟩
  refine ⟨_, rfl, ?_⟩
  have n1_ := Aside0.mk (below_step (kB0 HB) hb)
  have n3_ := Aside0.mk (below_step (kB0 HB3) hb)
  have mi_ := Aside0.mk (blk_below (kb Bgi) hb)
  have me_ := Aside0.mk (blk_below (kb Bge) hb)
  have mb_ := Aside0.mk (blk_below (by first | exact Bgb.out | exact blk_drew Bgb.out) hb)
  clear HB HB3 Bgi Bgb Bge hHeld
  have HB := n1_
  have HB3 := n3_
  have Bgi := mi_
  have Bgb := mb_
  have Bge := me_
  clear n1_ n3_ mi_ mb_ me_ hb
  refine hK.out _ _ ⟨((blk_cell Bgi.out 0).trans rfl), ((blk_cell Bgi.out 1).trans rfl), ((blk_cell Bgi.out 2).trans rfl), ((blk_cell Bgi.out 3).trans rfl), ((blk_cell Bgi.out 4).trans rfl), ((blk_cell Bgb.out 0).trans rfl), ((blk_cell Bgb.out 1).trans rfl), ((blk_cell Bgb.out 2).trans rfl), ((blk_cell Bge.out 0).trans rfl), ((blk_cell Bge.out 1).trans rfl), ((blk_cell Bge.out 2).trans rfl), ((blk_cell Bge.out 3).trans rfl), ((blk_cell Bge.out 4).trans rfl)⟩ (fun hHeld => ?_)
  clear hK K
  refine norm_ (a' := ?_) ?_ ?_
  rotate_left
  · show Act.put _ (some 15) _ = _
    simp only [Act.put, List.setIfInBounds_toArray, List.set_cons_zero, List.set_cons_succ, i64_w, i32_w]
    rfl
  refine pure_ (i := 10) (N := some 19) (v := ?_) (a' := ?_) #[true, true, true, true, true, true, true, true, true, true, true, false, false, false, false, false, false, false] rfl rfl (by kernel_rfl) (fun _ _ _ h => h) (Or.inl ⟨by rfl, ?_⟩) ?_ ?_
  rotate_left
  · intro w'
    go_simp
    with_reducible rfl
  rotate_left
  · simp only [Act.put, List.setIfInBounds_toArray, List.set_cons_zero, List.set_cons_succ, i64_w, i32_w]
    rfl
  refine pure_ (i := 11) (N := some 20) (v := ?_) (a' := ?_) #[true, true, true, true, true, true, true, true, true, true, true, true, false, false, false, false, false, false] rfl rfl (by kernel_rfl) (fun _ _ _ h => h) (Or.inl ⟨by rfl, ?_⟩) ?_ ?_
  rotate_left
  · intro w'
    go_simp
    with_reducible rfl
  rotate_left
  · simp only [Act.put, List.setIfInBounds_toArray, List.set_cons_zero, List.set_cons_succ, i64_w, i32_w]
    rfl
  refine pure_ (i := 12) (N := some 21) (v := ?_) (a' := ?_) #[true, true, true, true, true, true, true, true, true, true, true, true, true, false, false, false, false, false] rfl rfl (by kernel_rfl) (fun _ _ _ h => h) (Or.inl ⟨by rfl, ?_⟩) ?_ ?_
  rotate_left
  · intro w'
    go_simp
    with_reducible rfl
  rotate_left
  · simp only [Act.put, List.setIfInBounds_toArray, List.set_cons_zero, List.set_cons_succ, i64_w, i32_w]
    rfl
  refine take_ (i := 13) (N := some 22) (v := ?_) (a' := ?_) #[true, true, true, true, true, true, true, true, true, true, true, true, true, true, false, false, false, false] rfl rfl (by kernel_rfl) (fun _ _ _ h => h) (Or.inl ⟨by rfl, ?_⟩) hHeld ?_ ?_
  rotate_left
  · rintro w' ⟨s0, s1, s2, s3, s4, s5, s6, s7, s8, s9, s10, s11, s12⟩
    go_simp
    with_reducible rfl
  rotate_left
  · simp only [Act.put, List.setIfInBounds_toArray, List.set_cons_zero, List.set_cons_succ, i64_w, i32_w]
    rfl
  refine take_ (i := 14) (N := some 23) (v := ?_) (a' := ?_) #[true, true, true, true, true, true, true, true, true, true, true, true, true, true, true, false, false, false] rfl rfl (by kernel_rfl) (fun _ _ _ h => h) (Or.inl ⟨by rfl, ?_⟩) hHeld ?_ ?_
  rotate_left
  · rintro w' ⟨s0, s1, s2, s3, s4, s5, s6, s7, s8, s9, s10, s11, s12⟩
    go_simp
    with_reducible rfl
  rotate_left
  · simp only [Act.put, List.setIfInBounds_toArray, List.set_cons_zero, List.set_cons_succ, i64_w, i32_w]
    rfl
  refine one_ (i := 15) (N := some 24) #[true, true, true, true, true, true, true, true, true, true, true, true, true, true, true, true, false, false] rfl rfl (by kernel_rfl) (by decide) (fun K hK => ?_)
  refine goes_ Tryd.func8 (by kernel_rfl) rfl #[.agg #[.string nm, .slice A1 fs.length c1, .int .i64 outs, .slice A3 bs.length c3, .slice A4 ts.length c4], .agg #[.string nm, .slice AF fs.length cF, .int .i64 outs, .slice AB bs.length cB, .slice AT ts.length cT]] (by rfl) rfl rfl (by (try simp only [List.map_toArray, List.map_cons, List.map_nil]); first | done | rfl) ?_
  refine (same_same nm fs outs bs ts A1 c1 A3 c3 A4 c4 AF cF AB cB AT cT _ ⟨Kd.C_below G1.out (kB0 HB3)⟩ ⟨Kd.C_below G3.out (kB0 HB3)⟩ ⟨Kd.C_below G4.out (kB0 HB3)⟩ ⟨Kd.C_below hfs.out (kB0 HB)⟩ ⟨Kd.C_below hbs.out (kB0 HB)⟩ ⟨Kd.C_below hts.out (kB0 HB)⟩).mono ?_
  rintro e w7 ⟨rfl, hb⟩
  refine ⟨_, rfl, ?_⟩
  have n1_ := Aside0.mk (below_step (kB0 HB) hb)
  have n3_ := Aside0.mk (below_step (kB0 HB3) hb)
  have mi_ := Aside0.mk (blk_below (kb Bgi) hb)
  have me_ := Aside0.mk (blk_below (kb Bge) hb)
  have mb_ := Aside0.mk (blk_below (by first | exact Bgb.out | exact blk_drew Bgb.out) hb)
  clear HB HB3 Bgi Bgb Bge hHeld
  have HB := n1_
  have HB3 := n3_
  have Bgi := mi_
  have Bgb := mb_
  have Bge := me_
  clear n1_ n3_ mi_ mb_ me_ hb
  refine hK.out _ _ ⟨((blk_cell Bgi.out 0).trans rfl), ((blk_cell Bgi.out 1).trans rfl), ((blk_cell Bgi.out 2).trans rfl), ((blk_cell Bgi.out 3).trans rfl), ((blk_cell Bgi.out 4).trans rfl), ((blk_cell Bgb.out 0).trans rfl), ((blk_cell Bgb.out 1).trans rfl), ((blk_cell Bgb.out 2).trans rfl), ((blk_cell Bge.out 0).trans rfl), ((blk_cell Bge.out 1).trans rfl), ((blk_cell Bge.out 2).trans rfl), ((blk_cell Bge.out 3).trans rfl), ((blk_cell Bge.out 4).trans rfl)⟩ (fun hHeld => ?_)
  clear hK K
  refine norm_ (a' := ?_) ?_ ?_
  rotate_left
  · show Act.put _ (some 24) _ = _
    simp only [Act.put, List.setIfInBounds_toArray, List.set_cons_zero, List.set_cons_succ, i64_w, i32_w]
    rfl
  refine pure_ (i := 16) (N := some 25) (v := ?_) (a' := ?_) #[true, true, true, true, true, true, true, true, true, true, true, true, true, true, true, true, true, false] rfl rfl (by kernel_rfl) (fun _ _ _ h => h) (Or.inl ⟨by rfl, ?_⟩) ?_ ?_
  rotate_left
  · intro w'
    go_simp
    with_reducible rfl
  rotate_left
  · simp only [Act.put, List.setIfInBounds_toArray, List.set_cons_zero, List.set_cons_succ, i64_w, i32_w]
    rfl
  refine pure_ (i := 17) (N := some 2) (v := ?_) (a' := ?_) #[true, true, true, true, true, true, true, true, true, true, true, true, true, true, true, true, true, true] rfl rfl (by kernel_rfl) (fun _ _ _ h => h) (Or.inl ⟨by rfl, ?_⟩) ?_ ?_
  rotate_left
  · intro w'
    go_simp
    with_reducible rfl
  rotate_left
  · simp only [Act.put, List.setIfInBounds_toArray, List.set_cons_zero, List.set_cons_succ, i64_w, i32_w]
    rfl
  refine done_ (by kernel_rfl) ?_

  go_wp2
  go_ret
  exact ⟨by first | rfl | (simp; done), kB0 HB⟩
end
end Go.Proofs.YtkemfbocojoagaaDoor.FAll
