/-
  trees.Way, where the tree is fine and the way is known: the nodes from the root to the leaf.
-/
import Derived.Test.YtpeiafamkajedaaDoorGg
import Derived.Test.YtpeiafamkajedaaDoorPh
namespace Go.Proofs.YtpeiafamkajedaaDoor.FAll
open Go.RowKit Go.Proofs.YtpeiafamkajedaaDoorW.PrintWords Go.Proofs.YtpeiafamkajedaaDoorW.PrintLast Go.Proofs.YtpeiafamkajedaaDoorW.PrintMore
attribute [local go_sem] fstore_walk
set_option linter.unusedVariables false
set_option linter.unusedSimpArgs false
def innerB (y : S65) : Bool := y.f0 == 2 || y.f0 == 3
theorem inner_f (y : S65) : trees_inner.f y.f0 y.f1 y.f2 y.f3 y.f4 y.f5 y.f6 y.f7 = some (innerB y) := by
  unfold trees_inner.f innerB
  by_cases h : y.f0 = 2
  · rw [if_pos h, beq_iff_eq.mpr h, Bool.true_or]
  · rw [if_neg h, beq_eq_false_iff_ne.mpr h, Bool.false_or]
/-- The next node. -/
def nextI (ns : List S65) (xs : List Nat) (i : Int) : Int := if goesV (rd_T65 ns i).f0 (rd_T65 ns i).f3 (rd_T65 ns i).f4 (rd_T65 ns i).f5 (rdOf (0 : Nat) xs (rd_T65 ns i).f2) = 1 then (rd_T65 ns i).f6 else (rd_T65 ns i).f7
def wayI (ns : List S65) (xs : List Nat) : Nat → Int
  | 0 => 0
  | j + 1 => nextI ns xs (wayI ns xs j)
/-- The first nodes of the way. -/
def wayP (ns : List S65) (xs : List Nat) (j : Nat) : List Int := (List.range (j + 1)).map (wayI ns xs)
theorem wayP_length (ns : List S65) (xs : List Nat) (j : Nat) : (wayP ns xs j).length = j + 1 := by unfold wayP; rw [List.length_map, List.length_range]
theorem wayP_snoc (ns : List S65) (xs : List Nat) (j : Nat) : wayP ns xs j ++ [wayI ns xs (j + 1)] = wayP ns xs (j + 1) := by unfold wayP; rw [List.range_succ (n := j + 1), List.map_append]; rfl
/-- The way comes to a leaf behind m steps. -/
structure WayOk (ns : List S65) (xs : List Nat) (m : Nat) : Prop where
  lies : ∀ j, j ≤ m → 0 ≤ wayI ns xs j ∧ wayI ns xs j < (ns.length : Int)
  goes : ∀ j, j < m → innerB (rd_T65 ns (wayI ns xs j)) = true
  ends : innerB (rd_T65 ns (wayI ns xs m)) = false
theorem R_way0 (w : World) (base : Nat) (hb : base ≤ w.heap.size) (ns : List S65) (xs : List Nat) : Kd.R (Kd.int .i64) 3 (w.alloc (.cells #[.int .i64 0] 3)) base (fun _ => True) (.slice (some ⟨w.heap.size, 0, none⟩) 1 1) (wayP ns xs 0) :=
  Kd.R_of_own (own_lit_of (enc := Value.int .i64) w base 3 [(0 : Int)] hb (by simp)) (fun _ _ => trivial)
section
variable (t0 : Int) (A1 : Option Addr) (c1 : Nat) (ns : List S65) (AX : Option Addr) (cX : Nat) (xs : List Nat)
set_option maxHeartbeats 16000000 in
set_option maxRecDepth 100000 in
theorem trees_Way.calls (k m : Nat) (w : World) (hns : Aside0 (Kd.C k65 w A1 ns.length ns)) (hc1 : Aside0 (ns.length ≤ c1)) (hxs : Aside0 (Kd.f64.C w AX xs.length xs)) (KS : Aside0 (trees_Shape.f k t0 ns = some (0, 0)))
    (HF : Aside0 (∀ j : Nat, j < ns.length → innerB (rd_T65 ns (j : Int)) = true → 0 ≤ (rd_T65 ns (j : Int)).f2 ∧ (rd_T65 ns (j : Int)).f2 < (xs.length : Int))) (HW : Aside0 (WayOk ns xs m)) (HM : Aside0 (m ≤ 1000000000)) :
    Calls Tryd.prog 18 #[.agg #[.int .i64 t0, .slice A1 ns.length c1], .slice AX xs.length cX] w fun e w' => ∃ A c, e = .returned (.tuple #[.slice A (m + 1) c, .int .i64 0]) ∧ Kd.C (Kd.int .i64) w' A (m + 1) (wayP ns xs m) ∧ m + 1 ≤ c ∧ Below w.heap.size w w' := by
  have HB := Aside0.mk (Below.refl w.heap.size w)
  have LN := Aside0.mk (show ns.length ≤ 9223372036854775807 from (show ReadsRow _ _ _ _ _ _ from hns.out).2.1)
  go_enter Tryd.func18, Tryd.ntmps18
  go_wp2_with (first | ((with_reducible refine gate_dst (N := 2) rfl ?_); refine box_event ?hg (N := 2) ?hd (cs := #[.int .i64 t0, .slice A1 ns.length c1]) (t := 37) ?hr ?_; (case hd => rfl); (case hg => rfl); (case hr => first | (go_simp; done) | (go_simp; rfl)); intro gt hg w1 hbox hb; have n0_ := Aside0.mk (below_step (kB0 HB) hb); have Bgt := Aside0.mk hbox; clear HB; have HB := n0_; clear n0_ hb hbox hg; have ht := blk2 (w := w1) Bgt.out) | (go_at_call 22; refine (trees_Shape.calls k t0 A1 c1 ns 0 0 _ (Kd.C_below hns.out (kB0 HB)) hc1.out KS.out).mono ?_; rintro e w2 ⟨rfl, hb⟩; have n0_ := Aside0.mk (below_step (kB0 HB) hb); have m0_ := Aside0.mk (blk_below (kb Bgt) hb); clear HB Bgt ht hb; have HB := n0_; have Bgt := m0_; clear n0_ m0_; have ht := blk2 (w := w2) Bgt.out))
  clear ht
  go_loopg [24] (ns.length + 1) (fun kq v24 w' => ∃ (z : Int) (n : Nat), v24 = .int .i64 z ∧ Aside0 (z = n) ∧ Aside0 (n ≤ ns.length) ∧ Aside0 (ns.length - n < kq) ∧ Aside0 (w'.heap[gt]? = some (.cells #[.int .i64 t0, .slice A1 ns.length c1] 37 (0, 0))) ∧ Aside0 (Below w.heap.size w w'))
  case atStart => exact ⟨0, 0, rfl, ⟨rfl⟩, ⟨Nat.zero_le _⟩, ⟨by omega⟩, ⟨kb Bgt⟩, ⟨kB0 HB⟩⟩
  case round =>
    clear HB Bgt
    obtain ⟨z, n, rfl, hz, hn, hk, Bgt, HB⟩ := hrel
    cases gk with
    | zero => exact absurd hk.out (by omega)
    | succ k1 =>
      have hzz := hz.out
      have hnn := hn.out
      by_cases hend : n = ns.length
      · have cnd : decide (z < (ns.length : Int)) = false := decide_eq_false (by omega)
        clear hzz hnn hend
        have ht := blk2 (w := wr) Bgt.out
        go_wp2
        clear ht
        go_loopg [10, 11] (m + 1) (fun kq v10 v11 w' => ∃ (i : Int) (j : Nat), v10 = .int .i64 i ∧ Aside0 (i = wayI ns xs j) ∧ Aside0 (j ≤ m) ∧ Aside0 (m - j < kq) ∧ Aside0 (w'.heap[gt]? = some (.cells #[.int .i64 t0, .slice A1 ns.length c1] 37 (0, 0))) ∧ Aside0 (Below w.heap.size w w') ∧ Aside0 (Kd.R (Kd.int .i64) 3 w' w.heap.size (fun _ => True) v11 (wayP ns xs j)))
        case atStart => exact ⟨0, 0, rfl, ⟨rfl⟩, ⟨Nat.zero_le _⟩, ⟨by omega⟩, ⟨kb Bgt⟩, ⟨below_alloc HB.out _⟩, ⟨R_way0 wr _ (below_size HB.out) ns xs⟩⟩
        case round => 
          clear HB Bgt
          obtain ⟨i, j, rfl, hi, hj, hk2, Bgt, HB, HR⟩ := hrel
          cases gk with
          | zero => exact absurd hk2.out (by omega)
          | succ k2 =>
            obtain ⟨AO, cO, rfl, lO, gO⟩ := Kd.R_reads HR.out
            obtain ⟨hi0, hi1⟩ := HW.out.lies j hj.out
            rw [← hi.out] at hi0 hi1
            have p1 : 0 ≤ i := hi0
            have p2 : i < (ns.length : Int) := hi1
            obtain ⟨ad, A4, c4, rfl, e0, e1, e2, e3, e4, e5, e6, e7, l4, g4⟩ := at_T65 hns.out i p1 p2
            have hnx : wayI ns xs (j + 1) = nextI ns xs i := by rw [hi.out]; rfl
            have hF := HF.out i.toNat (by omega)
            rw [show ((i.toNat : Nat) : Int) = i by omega] at hF
            unfold nextI at hnx
            have hgo := HW.out.goes j
            have hen := HW.out.ends
            rw [← hi.out] at hgo
            obtain ⟨y, hy⟩ : ∃ y, y = rd_T65 ns i := ⟨_, rfl⟩
            rw [← hy] at e0 e1 e2 e3 e4 e5 e6 e7 l4 g4 hF hnx hgo
            have E0 := Aside0.mk e0; have E1 := Aside0.mk e1; have E2 := Aside0.mk e2; have E3 := Aside0.mk e3; have E4 := Aside0.mk e4; have E5 := Aside0.mk e5; have E6 := Aside0.mk e6; have E7 := Aside0.mk e7
            replace e0 := (HB.out.cell (World.block_lt_of_cell? w _ e0)).trans e0; replace e1 := (HB.out.cell (World.block_lt_of_cell? w _ e1)).trans e1; replace e2 := (HB.out.cell (World.block_lt_of_cell? w _ e2)).trans e2; replace e3 := (HB.out.cell (World.block_lt_of_cell? w _ e3)).trans e3; replace e4 := (HB.out.cell (World.block_lt_of_cell? w _ e4)).trans e4; replace e5 := (HB.out.cell (World.block_lt_of_cell? w _ e5)).trans e5; replace e6 := (HB.out.cell (World.block_lt_of_cell? w _ e6)).trans e6; replace e7 := (HB.out.cell (World.block_lt_of_cell? w _ e7)).trans e7
            have G4 := Aside0.mk g4
            have L4 := Aside0.mk l4
            replace p1 := eq_true p1
            replace p2 := eq_true p2
            have ht := blk2 (w := wr) Bgt.out
            have lO1 := wayP_length ns xs j
            by_cases hjm : j = m
            · subst hjm
              have hq : innerB y = false := by rw [hy, hi.out]; exact hen
              have GO_ := Aside0.mk gO
              have LO_ := Aside0.mk lO
              have LJ := Aside0.mk lO1
              clear hi0 hi1 hnx hF hgo hen hy g4 l4 gO lO lO1 HW
              go_wp2_with (first | (go_at_call 41; refine (trees_inner.calls y.f0 y.f1 y.f2 y.f3 A4 c4 y.f4 y.f5 y.f6 y.f7 _ _ (Kd.C_below G4.out (kB0 HB)) L4.out (inner_f y)).mono ?_; rintro e w5 ⟨rfl, hb⟩; have n0_ := Aside0.mk (below_step (kB0 HB) hb); have m0_ := Aside0.mk (blk_below (kb Bgt) hb); have r0_ := Aside0.mk (Kd.R_below (kR HR) hb); clear e0 e1 e2 e3 e4 e5 e6 e7; clear HB Bgt HR ht hb; have HB := n0_; have Bgt := m0_; have HR := r0_; clear n0_ m0_ r0_; have ht := blk2 (w := w5) Bgt.out; have e0 := (HB.out.cell (World.block_lt_of_cell? w _ E0.out)).trans E0.out; have e1 := (HB.out.cell (World.block_lt_of_cell? w _ E1.out)).trans E1.out; have e2 := (HB.out.cell (World.block_lt_of_cell? w _ E2.out)).trans E2.out; have e3 := (HB.out.cell (World.block_lt_of_cell? w _ E3.out)).trans E3.out; have e4 := (HB.out.cell (World.block_lt_of_cell? w _ E4.out)).trans E4.out; have e5 := (HB.out.cell (World.block_lt_of_cell? w _ E5.out)).trans E5.out; have e6 := (HB.out.cell (World.block_lt_of_cell? w _ E6.out)).trans E6.out; have e7 := (HB.out.cell (World.block_lt_of_cell? w _ E7.out)).trans E7.out))
              go_ret2
              exact ⟨_, _, by rw [LJ.out]; rfl, by have h := (Kd.R_reads' HR.out).2.2; rw [LJ.out] at h; exact h, by rw [← LJ.out]; exact LO_.out, kB0 HB⟩
            · have hlt : j < m := by have := hj.out; omega
              have hq : innerB y = true := hgo hlt
              obtain ⟨f20, f21⟩ := hF hq
              obtain ⟨ax, rfl, ex⟩ := Kd.at_f64 hxs.out y.f2 f20 f21
              obtain ⟨xv, hxv⟩ : ∃ xv, xv = rdOf (0 : Nat) xs y.f2 := ⟨_, rfl⟩
              rw [← hxv] at ex hnx
              have EX := Aside0.mk ex
              obtain ⟨s, hs⟩ : ∃ s, s = goesV y.f0 y.f3 y.f4 y.f5 xv := ⟨_, rfl⟩
              rw [← hs] at hnx
              have GV := Aside0.mk hs.symm
              have HLT := Aside0.mk hlt
              have NX := Aside0.mk hnx
              have p3 := eq_true f20
              have p4 := eq_true f21
              clear hi0 hi1 hnx hF hgo hen hy g4 l4 gO lO lO1 hlt hjm hxv hs f20 f21 ex
              go_wp2_with (first | (go_at_call 41; refine (trees_inner.calls y.f0 y.f1 y.f2 y.f3 A4 c4 y.f4 y.f5 y.f6 y.f7 _ _ (Kd.C_below G4.out (kB0 HB)) L4.out (inner_f y)).mono ?_; rintro e w5 ⟨rfl, hb⟩; have n0_ := Aside0.mk (below_step (kB0 HB) hb); have m0_ := Aside0.mk (blk_below (kb Bgt) hb); have r0_ := Aside0.mk (Kd.R_below (kR HR) hb); clear e0 e1 e2 e3 e4 e5 e6 e7; clear HB Bgt HR ht hb; have HB := n0_; have Bgt := m0_; have HR := r0_; clear n0_ m0_ r0_; have ht := blk2 (w := w5) Bgt.out; have e0 := (HB.out.cell (World.block_lt_of_cell? w _ E0.out)).trans E0.out; have e1 := (HB.out.cell (World.block_lt_of_cell? w _ E1.out)).trans E1.out; have e2 := (HB.out.cell (World.block_lt_of_cell? w _ E2.out)).trans E2.out; have e3 := (HB.out.cell (World.block_lt_of_cell? w _ E3.out)).trans E3.out; have e4 := (HB.out.cell (World.block_lt_of_cell? w _ E4.out)).trans E4.out; have e5 := (HB.out.cell (World.block_lt_of_cell? w _ E5.out)).trans E5.out; have e6 := (HB.out.cell (World.block_lt_of_cell? w _ E6.out)).trans E6.out; have e7 := (HB.out.cell (World.block_lt_of_cell? w _ E7.out)).trans E7.out))
              have ex := (below_alloc HB.out (.cells #[.int .u8 y.f0, .int .i64 y.f1, .int .i64 y.f2, .float .f64 y.f3, .slice A4 y.f4.length c4, .int .u8 y.f5, .int .i64 y.f6, .int .i64 y.f7] 65 (0, 0))).cell (World.block_lt_of_cell? w _ EX.out)
              rw [EX.out] at ex
              have n0_ := Aside0.mk (below_alloc HB.out (.cells #[.int .u8 y.f0, .int .i64 y.f1, .int .i64 y.f2, .float .f64 y.f3, .slice A4 y.f4.length c4, .int .u8 y.f5, .int .i64 y.f6, .int .i64 y.f7] 65 (0, 0)))
              clear HB
              have HB := n0_
              clear n0_
              clear e0 e1 e2 e3 e4 e5 e6 e7 ht
              refine start_ (n := 8) (S := fun w' => w'.cell? ⟨w5.heap.size, 0, none⟩ = some (.int .u8 y.f0) ∧ w'.cell? ⟨w5.heap.size, 1, none⟩ = some (.int .i64 y.f1) ∧ w'.cell? ⟨w5.heap.size, 2, none⟩ = some (.int .i64 y.f2) ∧ w'.cell? ⟨w5.heap.size, 3, none⟩ = some (.float .f64 y.f3) ∧ w'.cell? ⟨w5.heap.size, 4, none⟩ = some (.slice A4 y.f4.length c4) ∧ w'.cell? ⟨w5.heap.size, 5, none⟩ = some (.int .u8 y.f5) ∧ w'.cell? ⟨w5.heap.size, 6, none⟩ = some (.int .i64 y.f6) ∧ w'.cell? ⟨w5.heap.size, 7, none⟩ = some (.int .i64 y.f7) ∧ w'.cell? (ax.add y.f2.toNat) = some (.float .f64 xv)) (ds := []) #[false, false, false, false, false, false, false, false] (by kernel_rfl) rfl rfl ⟨((blk_cell (blk_drew (blk_new w5 _)) 0).trans rfl), ((blk_cell (blk_drew (blk_new w5 _)) 1).trans rfl), ((blk_cell (blk_drew (blk_new w5 _)) 2).trans rfl), ((blk_cell (blk_drew (blk_new w5 _)) 3).trans rfl), ((blk_cell (blk_drew (blk_new w5 _)) 4).trans rfl), ((blk_cell (blk_drew (blk_new w5 _)) 5).trans rfl), ((blk_cell (blk_drew (blk_new w5 _)) 6).trans rfl), ((blk_cell (blk_drew (blk_new w5 _)) 7).trans rfl), ex⟩ (fun hHeld => ?_)
              refine pure_ (i := 1) (N := some 53) (v := ?_) (a' := ?_) #[false, true, false, false, false, false, false, false] rfl rfl (by kernel_rfl) (fun _ _ _ h => h) (Or.inl ⟨by rfl, ?_⟩) ?_ ?_
              rotate_left
              · intro w'
                go_simp
                with_reducible rfl
              rotate_left
              · simp only [Act.put, List.setIfInBounds_toArray, List.set_cons_zero, List.set_cons_succ, i64_w, i32_w]
                rfl
              refine pure_ (i := 2) (N := some 54) (v := ?_) (a' := ?_) #[false, true, true, false, false, false, false, false] rfl rfl (by kernel_rfl) (fun _ _ _ h => h) (Or.inl ⟨by rfl, ?_⟩) ?_ ?_
              rotate_left
              · intro w'
                go_simp
                with_reducible rfl
              rotate_left
              · simp only [Act.put, List.setIfInBounds_toArray, List.set_cons_zero, List.set_cons_succ, i64_w, i32_w]
                rfl
              refine take_ (i := 0) (N := some 52) (v := ?_) (a' := ?_) #[true, true, true, false, false, false, false, false] rfl rfl (by kernel_rfl) (fun _ _ _ h => h) (Or.inl ⟨by rfl, ?_⟩) hHeld ?_ ?_
              rotate_left
              · rintro w' ⟨s0, s1, s2, s3, s4, s5, s6, s7, s8⟩
                go_simp
                with_reducible rfl
              rotate_left
              · simp only [Act.put, List.setIfInBounds_toArray, List.set_cons_zero, List.set_cons_succ, i64_w, i32_w]
                rfl
              refine take_ (i := 3) (N := some 55) (v := ?_) (a' := ?_) #[true, true, true, true, false, false, false, false] rfl rfl (by kernel_rfl) (fun _ _ _ h => h) (Or.inl ⟨by rfl, ?_⟩) hHeld ?_ ?_
              rotate_left
              · rintro w' ⟨s0, s1, s2, s3, s4, s5, s6, s7, s8⟩
                go_simp
                with_reducible rfl
              rotate_left
              · simp only [Act.put, List.setIfInBounds_toArray, List.set_cons_zero, List.set_cons_succ, i64_w, i32_w]
                rfl
              refine pure_ (i := 4) (N := some 56) (v := ?_) (a' := ?_) #[true, true, true, true, true, false, false, false] rfl rfl (by kernel_rfl) (fun _ _ _ h => h) (Or.inl ⟨by rfl, ?_⟩) ?_ ?_
              rotate_left
              · intro w'
                go_simp
                with_reducible rfl
              rotate_left
              · simp only [Act.put, List.setIfInBounds_toArray, List.set_cons_zero, List.set_cons_succ, i64_w, i32_w]
                rfl
              refine take_ (i := 5) (N := some 57) (v := ?_) (a' := ?_) #[true, true, true, true, true, true, false, false] rfl rfl (by kernel_rfl) (fun _ _ _ h => h) (Or.inl ⟨by rfl, ?_⟩) hHeld ?_ ?_
              rotate_left
              · rintro w' ⟨s0, s1, s2, s3, s4, s5, s6, s7, s8⟩
                go_simp
                with_reducible rfl
              rotate_left
              · simp only [Act.put, List.setIfInBounds_toArray, List.set_cons_zero, List.set_cons_succ, i64_w, i32_w]
                rfl
              refine one_ (i := 6) (N := some 58) #[true, true, true, true, true, true, true, false] rfl rfl (by kernel_rfl) (by decide) (fun K hK => ?_)
              refine goes_ Tryd.func42 (by kernel_rfl) rfl #[.agg #[.int .u8 y.f0, .int .i64 y.f1, .int .i64 y.f2, .float .f64 y.f3, .slice A4 y.f4.length c4, .int .u8 y.f5, .int .i64 y.f6, .int .i64 y.f7], .float .f64 xv] (by rfl) rfl rfl (by (try simp only [List.map_toArray, List.map_cons, List.map_nil]); first | done | rfl) ?_
              refine (trees_Goes.calls y.f0 y.f1 y.f2 y.f3 A4 c4 y.f4 y.f5 y.f6 y.f7 xv _ ⟨Kd.C_below G4.out (kB0 HB)⟩ _ GV).mono ?_
              rintro e w6 ⟨rfl, hb⟩
              refine ⟨_, rfl, ?_⟩
              have n1_ := Aside0.mk (below_step (kB0 HB) hb)
              have m1_ := Aside0.mk (blk_below (kb Bgt) hb)
              have m2_ := Aside0.mk (blk_below (blk_drew (blk_new w5 (.cells #[.int .u8 y.f0, .int .i64 y.f1, .int .i64 y.f2, .float .f64 y.f3, .slice A4 y.f4.length c4, .int .u8 y.f5, .int .i64 y.f6, .int .i64 y.f7] 65 (0, 0)))) hb)
              have r1_ := Aside0.mk (Kd.R_below (kR HR) hb)
              have q0 := (hb.cell (World.block_lt_of_cell? _ _ hHeld.1)).trans hHeld.1
              have q1 := (hb.cell (World.block_lt_of_cell? _ _ hHeld.2.1)).trans hHeld.2.1
              have q2 := (hb.cell (World.block_lt_of_cell? _ _ hHeld.2.2.1)).trans hHeld.2.2.1
              have q3 := (hb.cell (World.block_lt_of_cell? _ _ hHeld.2.2.2.1)).trans hHeld.2.2.2.1
              have q4 := (hb.cell (World.block_lt_of_cell? _ _ hHeld.2.2.2.2.1)).trans hHeld.2.2.2.2.1
              have q5 := (hb.cell (World.block_lt_of_cell? _ _ hHeld.2.2.2.2.2.1)).trans hHeld.2.2.2.2.2.1
              have q6 := (hb.cell (World.block_lt_of_cell? _ _ hHeld.2.2.2.2.2.2.1)).trans hHeld.2.2.2.2.2.2.1
              have q7 := (hb.cell (World.block_lt_of_cell? _ _ hHeld.2.2.2.2.2.2.2.1)).trans hHeld.2.2.2.2.2.2.2.1
              have q8 := (hb.cell (World.block_lt_of_cell? _ _ hHeld.2.2.2.2.2.2.2.2)).trans hHeld.2.2.2.2.2.2.2.2
              clear HB Bgt HR hHeld
              have HB := n1_
              have Bgt := m1_
              have Bn := m2_
              have HR := r1_
              clear n1_ m1_ m2_ r1_ hb
              refine hK.out _ _ ⟨q0, q1, q2, q3, q4, q5, q6, q7, q8⟩ (fun hHeld => ?_)
              clear hK K
              refine norm_ (a' := ?_) ?_ ?_
              rotate_left
              · show Act.put _ (some 58) _ = _
                simp only [Act.put, List.setIfInBounds_toArray, List.set_cons_zero, List.set_cons_succ, i64_w, i32_w]
                rfl
              refine pure_ (i := 7) (N := some 59) (v := ?_) (a' := ?_) #[true, true, true, true, true, true, true, true] rfl rfl (by kernel_rfl) (fun _ _ _ h => h) (Or.inl ⟨by rfl, ?_⟩) ?_ ?_
              rotate_left
              · intro w'
                go_simp
                with_reducible rfl
              rotate_left
              · simp only [Act.put, List.setIfInBounds_toArray, List.set_cons_zero, List.set_cons_succ, i64_w, i32_w]
                rfl
              refine done_ (by kernel_rfl) ?_

              have hn8 := blk8 (w := w6) Bn.out
              have ht := blk2 (w := w6) Bgt.out
              clear hHeld
              by_cases hs1 : s = 1
              · have cs : (s == 1) = true := beq_iff_eq.mpr hs1
                have NX2 := Aside0.mk (show wayI ns xs (j + 1) = y.f6 by rw [NX.out, if_pos hs1])
                clear hs1
                go_wp2_with (first | ((with_reducible refine gate_builtin (b := .append) (xs := #[.tmp 62, .tmp 64]) rfl ?_); at_builtin; refine Kd.R_append (Kd.int .i64) (w0 := w) w.heap.size rfl (.tmp 62) (.tmp 64) 56 3 (.int .i64 0) 8 rfl Tryd.underlying56 info3 rfl (by decide) (by omega) (.slice AO (wayP ns xs j).length cO) (wayP ns xs j) y.f6 [.int .i64 y.f6] (fun _ => True) (fun _ => False) rfl rfl rfl (fun _ hk => hk.elim) (fun _ _ => trivial) (kR HR) (kB0 HB) (below_size (kB0 HB)) (by rw [wayP_length]; have := HM.out; have := HLT.out; omega) ?_; intro v7 w7 ho hb hg hat; rw [← NX2.out, wayP_snoc] at ho; have n0_ := Aside0.mk hb; have r0_ := Aside0.mk ho; have m0_ := Aside0.mk (blk_grown (kb Bgt) hg (Kd.R_ne HR.out Bgt.out (by decide))); clear HB HR Bgt hn8 ht ho hb hg hat; have HB := n0_; have HR := r0_; have Bgt := m0_; clear n0_ r0_ m0_))
                go_roundg k2
                case measure => have := hk2.out; omega
                case rel => exact ⟨_, j + 1, rfl, ⟨NX2.out.symm⟩, ⟨HLT.out⟩, ⟨by have := hk2.out; have := HLT.out; omega⟩, ⟨kb Bgt⟩, ⟨kB0 HB⟩, ⟨kR HR⟩⟩
              · have cs : (s == 1) = false := beq_eq_false_iff_ne.mpr hs1
                have NX2 := Aside0.mk (show wayI ns xs (j + 1) = y.f7 by rw [NX.out, if_neg hs1])
                clear hs1
                go_wp2_with (first | ((with_reducible refine gate_builtin (b := .append) (xs := #[.tmp 62, .tmp 64]) rfl ?_); at_builtin; refine Kd.R_append (Kd.int .i64) (w0 := w) w.heap.size rfl (.tmp 62) (.tmp 64) 56 3 (.int .i64 0) 8 rfl Tryd.underlying56 info3 rfl (by decide) (by omega) (.slice AO (wayP ns xs j).length cO) (wayP ns xs j) y.f7 [.int .i64 y.f7] (fun _ => True) (fun _ => False) rfl rfl rfl (fun _ hk => hk.elim) (fun _ _ => trivial) (kR HR) (kB0 HB) (below_size (kB0 HB)) (by rw [wayP_length]; have := HM.out; have := HLT.out; omega) ?_; intro v7 w7 ho hb hg hat; rw [← NX2.out, wayP_snoc] at ho; have n0_ := Aside0.mk hb; have r0_ := Aside0.mk ho; have m0_ := Aside0.mk (blk_grown (kb Bgt) hg (Kd.R_ne HR.out Bgt.out (by decide))); clear HB HR Bgt hn8 ht ho hb hg hat; have HB := n0_; have HR := r0_; have Bgt := m0_; clear n0_ r0_ m0_))
                go_roundg k2
                case measure => have := hk2.out; omega
                case rel => exact ⟨_, j + 1, rfl, ⟨NX2.out.symm⟩, ⟨HLT.out⟩, ⟨by have := hk2.out; have := HLT.out; omega⟩, ⟨kb Bgt⟩, ⟨kB0 HB⟩, ⟨kR HR⟩⟩
      · have cnd : decide (z < (ns.length : Int)) = true := decide_eq_true (by omega)
        have p1 : 0 ≤ z := by omega
        have p2 : z < (ns.length : Int) := by omega
        have hlt : n < ns.length := by omega
        obtain ⟨ad, A4, c4, rfl, e0, e1, e2, e3, e4, e5, e6, e7, l4, g4⟩ := at_T65 hns.out z p1 p2
        have hF := HF.out n hlt
        rw [← hzz] at hF
        obtain ⟨y, hy⟩ : ∃ y, y = rd_T65 ns z := ⟨_, rfl⟩
        rw [← hy] at e0 e1 e2 e3 e4 e5 e6 e7 l4 g4 hF
        replace e0 := (HB.out.cell (World.block_lt_of_cell? w _ e0)).trans e0; replace e1 := (HB.out.cell (World.block_lt_of_cell? w _ e1)).trans e1; replace e2 := (HB.out.cell (World.block_lt_of_cell? w _ e2)).trans e2; replace e3 := (HB.out.cell (World.block_lt_of_cell? w _ e3)).trans e3; replace e4 := (HB.out.cell (World.block_lt_of_cell? w _ e4)).trans e4; replace e5 := (HB.out.cell (World.block_lt_of_cell? w _ e5)).trans e5; replace e6 := (HB.out.cell (World.block_lt_of_cell? w _ e6)).trans e6; replace e7 := (HB.out.cell (World.block_lt_of_cell? w _ e7)).trans e7
        have G4 := Aside0.mk g4
        have L4 := Aside0.mk l4
        have HLT := Aside0.mk hlt
        have XN := Aside0.mk hzz
        replace p1 := eq_true p1
        replace p2 := eq_true p2
        have ht := blk2 (w := wr) Bgt.out
        clear hzz hnn hend hlt hy g4 l4
        cases hq : innerB y with
        | true =>
          have hf2 := (hF hq).2
          have cf2 : decide (y.f2 ≥ (xs.length : Int)) = false := decide_eq_false (by omega)
          clear hF hf2
          go_wp2_with (first | (go_at_call 41; refine (trees_inner.calls y.f0 y.f1 y.f2 y.f3 A4 c4 y.f4 y.f5 y.f6 y.f7 _ _ (Kd.C_below G4.out (below_alloc HB.out _)) L4.out (inner_f y)).mono ?_; rintro e w5 ⟨rfl, hb⟩; have Bn := Aside0.mk (blk_below (blk_new wr (.cells #[.int .u8 y.f0, .int .i64 y.f1, .int .i64 y.f2, .float .f64 y.f3, .slice A4 y.f4.length c4, .int .u8 y.f5, .int .i64 y.f6, .int .i64 y.f7] 65 (0, 0))) hb); have n0_ := Aside0.mk (below_step (below_alloc HB.out _) hb); have m0_ := Aside0.mk (blk_below (blk_alloc Bgt.out _) hb); clear e0 e1 e2 e3 e4 e5 e6 e7; clear HB Bgt hb; have HB := n0_; have Bgt := m0_; clear n0_ m0_; have hn8 := blk8 (w := w5) Bn.out))
          go_roundg k1
          case measure => have := hk.out; omega
          case rel => exact ⟨_, n + 1, rfl, ⟨by have := XN.out; have := HLT.out; have := LN.out; unfold wrap64; omega⟩, ⟨HLT.out⟩, ⟨by have := hk.out; have := HLT.out; omega⟩, ⟨kb Bgt⟩, ⟨kB0 HB⟩⟩
        | false =>
          clear hF
          go_wp2_with (first | (go_at_call 41; refine (trees_inner.calls y.f0 y.f1 y.f2 y.f3 A4 c4 y.f4 y.f5 y.f6 y.f7 _ _ (Kd.C_below G4.out (below_alloc HB.out _)) L4.out (inner_f y)).mono ?_; rintro e w5 ⟨rfl, hb⟩; have Bn := Aside0.mk (blk_below (blk_new wr (.cells #[.int .u8 y.f0, .int .i64 y.f1, .int .i64 y.f2, .float .f64 y.f3, .slice A4 y.f4.length c4, .int .u8 y.f5, .int .i64 y.f6, .int .i64 y.f7] 65 (0, 0))) hb); have n0_ := Aside0.mk (below_step (below_alloc HB.out _) hb); have m0_ := Aside0.mk (blk_below (blk_alloc Bgt.out _) hb); clear e0 e1 e2 e3 e4 e5 e6 e7; clear HB Bgt hb; have HB := n0_; have Bgt := m0_; clear n0_ m0_; have hn8 := blk8 (w := w5) Bn.out))
          go_roundg k1
          case measure => have := hk.out; omega
          case rel => exact ⟨_, n + 1, rfl, ⟨by have := XN.out; have := HLT.out; have := LN.out; unfold wrap64; omega⟩, ⟨HLT.out⟩, ⟨by have := hk.out; have := HLT.out; omega⟩, ⟨kb Bgt⟩, ⟨kB0 HB⟩⟩
end
end Go.Proofs.YtpeiafamkajedaaDoor.FAll
