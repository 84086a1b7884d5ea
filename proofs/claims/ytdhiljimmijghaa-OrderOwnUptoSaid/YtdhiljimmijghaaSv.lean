/-
  slices.reverseRangeOrdered at []uint64: the library text computes reverseRange.
-/
import Derived.Test.YtdhiljimmijghaaSp
namespace Go.Proofs.Ytdhiljimmijghaa.FAll
open Go.RowKit Go.Sort Go.Proofs.YtdhiljimmijghaaW.PrintWords Go.Proofs.YtdhiljimmijghaaW.PrintLast Go.Proofs.YtdhiljimmijghaaW.PrintMore
set_option linter.unusedVariables false
set_option linter.unusedSimpArgs false
theorem rev_go (i j : Nat) (d : Array Int) (h : i < j) : reverseLoop i j d = reverseLoop (i + 1) (j - 1) (swp d i j) := by rw [reverseLoop, if_pos h]
theorem rev_stop (i j : Nat) (d : Array Int) (h : ¬ i < j) : reverseLoop i j d = d := by rw [reverseLoop, if_neg h]
structure RevIs (d d' : Array Int) : Prop where
  eq : d = d'
set_option maxHeartbeats 16000000 in
set_option maxRecDepth 100000 in
theorem reverseRange64.calls (w : World) (g cap : Nat) (tl : List Value) (d : Array Int) (a b : Nat) (az bz : Int) (haz : Aside0 (az = a)) (hbz : Aside0 (bz = b)) (hR : Aside0 (Srt w g tl d w)) (hbd : Aside0 (b ≤ d.size)) (hab : Aside0 (a < b)) (hsz : Aside0 (d.size ≤ 1152921504606846976)) :
    Calls Try.prog 43 #[.slice (some ⟨g, 0, none⟩) d.size cap, .int .i64 az, .int .i64 bz] w fun e w' => e = .returned (.tuple #[]) ∧ (reverseRange d a b).size = d.size ∧ Srt w g tl (reverseRange d a b) w' := by
  obtain ⟨jz0, hjz⟩ : ∃ jz0 : Int, jz0 = bz - 1 := ⟨_, rfl⟩
  have ha_ := haz.out
  have hb_ := hbz.out
  have hl_ := hab.out
  have hm_ := hbd.out
  have hn_ := hsz.out
  have Z0 := Aside0.mk (show jz0 = ((b - 1 : Nat) : Int) by omega)
  have wj_ : wrap64 (bz - 1) = jz0 := by unfold wrap64; omega
  clear ha_ hb_ hl_ hm_ hn_ hjz
  go_enter Try.func43, Try.ntmps43
  go_wp2
  simp only [wj_]
  go_loopg [6, 7] (d.size + 1) (fun kq v6 v7 w' => ∃ (iz jz : Int) (i j : Nat) (dj : Array Int), v6 = .int .i64 iz ∧ v7 = .int .i64 jz ∧ Aside0 (iz = i) ∧ Aside0 (jz = j) ∧ Aside0 (a ≤ i ∧ j < b) ∧ Aside0 (j < kq) ∧ Aside0 (reverseLoop i j dj = reverseRange d a b) ∧ Aside0 (dj.size = d.size) ∧ Aside0 (Srt w g tl dj w'))
  case atStart => exact ⟨_, _, a, b - 1, d, rfl, rfl, haz, Z0, ⟨by have := hab.out; omega⟩, ⟨by have := hab.out; have := hbd.out; omega⟩, ⟨rfl⟩, ⟨rfl⟩, hR⟩
  case round =>
    clear hR
    obtain ⟨iz, jz, i, j, dj, rfl, rfl, hi, hj, hij, hk, hrv, HD, SR⟩ := hrel
    cases gk with
    | zero => exact absurd hk.out (by omega)
    | succ k1 =>
      by_cases hle : i < j
      · have cnd : decide (iz < jz) = true := decide_eq_true (by have := hi.out; have := hj.out; omega)
        have LE := Aside0.mk hle
        have h1_ := hi.out
        have h2_ := hj.out
        have h3_ := hij.out
        have h4_ := hbd.out
        have h5_ := hsz.out
        have wp_ : wrap64 (iz + 1) = iz + 1 := by unfold wrap64; omega
        have wm_ : wrap64 (jz - 1) = jz - 1 := by unfold wrap64; omega
        have P_iz := Aside0.mk (⟨by omega, by omega⟩ : iz.toNat = i ∧ i < d.size)
        have n1_iz := eq_true (show 0 ≤ iz by omega)
        have n2_iz := eq_true (show iz < (d.size : Int) by omega)
        have P_jz := Aside0.mk (⟨by omega, by omega⟩ : jz.toNat = j ∧ j < d.size)
        have n1_jz := eq_true (show 0 ≤ jz by omega)
        have n2_jz := eq_true (show jz < (d.size : Int) by omega)
        clear h1_ h2_ h3_ h4_ h5_ hle
        obtain ⟨x1, hx1⟩ : ∃ x1, x1 = dj[i]! := ⟨_, rfl⟩
        have X_x1 := Aside0.mk hx1
        clear hx1
        have C_x1 := Aside0.mk (show wr.drew.cell? ⟨g, iz.toNat, none⟩ = some (.int .u64 x1) by rw [P_iz.out.1, X_x1.out]; exact SR.out.drew.cell (i) (by rw [HD.out]; exact P_iz.out.2))
        obtain ⟨x0, hx0⟩ : ∃ x0, x0 = dj[j]! := ⟨_, rfl⟩
        have X_x0 := Aside0.mk hx0
        clear hx0
        have C_x0 := Aside0.mk (show wr.drew.cell? ⟨g, jz.toNat, none⟩ = some (.int .u64 x0) by rw [P_jz.out.1, X_x0.out]; exact SR.out.drew.cell (j) (by rw [HD.out]; exact P_jz.out.2))
        have fz1_ := SR.out.frozen iz.toNat
        have fz2_ := SR.out.frozen jz.toNat
        have s2_ := SR.out.set iz.toNat (by rw [P_iz.out.1, HD.out]; exact P_iz.out.2) x0
        have f2_ := s2_.frozen jz.toNat
        have c2_ := s2_.cell jz.toNat (by rw [Array.size_setIfInBounds, HD.out, P_jz.out.1]; exact P_jz.out.2)
        clear s2_
        go_wp2
        refine start_ (n := 16) (S := fun w' => w'.cell? ⟨g, iz.toNat, none⟩ = some (.int .u64 x1) ∧ w'.cell? ⟨g, jz.toNat, none⟩ = some (.int .u64 x0)) (ds := [13, 15]) #[false, false, false, false, false, false, false, false, false, false, false, false, false, false, false, false] (by kernel_rfl) rfl rfl ⟨C_x1.out, C_x0.out⟩ (fun hHeld => ?_)
        refine pure_ (i := 0) (N := some 14) (v := ?_) (a' := ?_) #[true, false, false, false, false, false, false, false, false, false, false, false, false, false, false, false] rfl rfl (by kernel_rfl) (fun _ _ _ h => h) (Or.inl ⟨by rfl, ?_⟩) ?_ ?_
        rotate_left
        · intro w'
          go_simp
          with_reducible rfl
        rotate_left
        · simp only [Act.put, List.setIfInBounds_toArray, List.set_cons_zero, List.set_cons_succ, i64_w, i32_w]
          rfl
        refine pure_ (i := 1) (N := some 15) (v := ?_) (a' := ?_) #[true, true, false, false, false, false, false, false, false, false, false, false, false, false, false, false] rfl rfl (by kernel_rfl) (fun _ _ _ h => h) (Or.inl ⟨by rfl, ?_⟩) ?_ ?_
        rotate_left
        · intro w'
          go_simp
          with_reducible rfl
        rotate_left
        · simp only [Act.put, List.setIfInBounds_toArray, List.set_cons_zero, List.set_cons_succ, i64_w, i32_w]
          rfl
        refine pure_ (i := 2) (N := some 16) (v := ?_) (a' := ?_) #[true, true, true, false, false, false, false, false, false, false, false, false, false, false, false, false] rfl rfl (by kernel_rfl) (fun _ _ _ h => h) (Or.inl ⟨by rfl, ?_⟩) ?_ ?_
        rotate_left
        · intro w'
          go_simp
          with_reducible rfl
        rotate_left
        · simp only [Act.put, List.setIfInBounds_toArray, List.set_cons_zero, List.set_cons_succ, i64_w, i32_w]
          rfl
        refine pure_ (i := 3) (N := some 17) (v := ?_) (a' := ?_) #[true, true, true, true, false, false, false, false, false, false, false, false, false, false, false, false] rfl rfl (by kernel_rfl) (fun _ _ _ h => h) (Or.inl ⟨by rfl, ?_⟩) ?_ ?_
        rotate_left
        · intro w'
          go_simp
          with_reducible rfl
        rotate_left
        · simp only [Act.put, List.setIfInBounds_toArray, List.set_cons_zero, List.set_cons_succ, i64_w, i32_w]
          rfl
        refine pure_ (i := 4) (N := some 18) (v := ?_) (a' := ?_) #[true, true, true, true, true, false, false, false, false, false, false, false, false, false, false, false] rfl rfl (by kernel_rfl) (fun _ _ _ h => h) (Or.inl ⟨by rfl, ?_⟩) ?_ ?_
        rotate_left
        · intro w'
          go_simp
          with_reducible rfl
        rotate_left
        · simp only [Act.put, List.setIfInBounds_toArray, List.set_cons_zero, List.set_cons_succ, i64_w, i32_w]
          rfl
        refine pure_ (i := 5) (N := some 19) (v := ?_) (a' := ?_) #[true, true, true, true, true, true, false, false, false, false, false, false, false, false, false, false] rfl rfl (by kernel_rfl) (fun _ _ _ h => h) (Or.inl ⟨by rfl, ?_⟩) ?_ ?_
        rotate_left
        · intro w'
          go_simp
          with_reducible rfl
        rotate_left
        · simp only [Act.put, List.setIfInBounds_toArray, List.set_cons_zero, List.set_cons_succ, i64_w, i32_w]
          rfl
        refine pure_ (i := 6) (N := some 20) (v := ?_) (a' := ?_) #[true, true, true, true, true, true, true, false, false, false, false, false, false, false, false, false] rfl rfl (by kernel_rfl) (fun _ _ _ h => h) (Or.inl ⟨by rfl, ?_⟩) ?_ ?_
        rotate_left
        · intro w'
          go_simp
          with_reducible rfl
        rotate_left
        · simp only [Act.put, List.setIfInBounds_toArray, List.set_cons_zero, List.set_cons_succ, i64_w, i32_w]
          rfl
        refine pure_ (i := 8) (N := some 22) (v := ?_) (a' := ?_) #[true, true, true, true, true, true, true, false, true, false, false, false, false, false, false, false] rfl rfl (by kernel_rfl) (fun _ _ _ h => h) (Or.inl ⟨by rfl, ?_⟩) ?_ ?_
        rotate_left
        · intro w'
          go_simp
          with_reducible rfl
        rotate_left
        · simp only [Act.put, List.setIfInBounds_toArray, List.set_cons_zero, List.set_cons_succ, i64_w, i32_w]
          rfl
        refine pure_ (i := 9) (N := some 23) (v := ?_) (a' := ?_) #[true, true, true, true, true, true, true, false, true, true, false, false, false, false, false, false] rfl rfl (by kernel_rfl) (fun _ _ _ h => h) (Or.inl ⟨by rfl, ?_⟩) ?_ ?_
        rotate_left
        · intro w'
          go_simp
          with_reducible rfl
        rotate_left
        · simp only [Act.put, List.setIfInBounds_toArray, List.set_cons_zero, List.set_cons_succ, i64_w, i32_w]
          rfl
        refine pure_ (i := 10) (N := some 24) (v := ?_) (a' := ?_) #[true, true, true, true, true, true, true, false, true, true, true, false, false, false, false, false] rfl rfl (by kernel_rfl) (fun _ _ _ h => h) (Or.inl ⟨by rfl, ?_⟩) ?_ ?_
        rotate_left
        · intro w'
          go_simp
          with_reducible rfl
        rotate_left
        · simp only [Act.put, List.setIfInBounds_toArray, List.set_cons_zero, List.set_cons_succ, i64_w, i32_w]
          rfl
        refine take_ (i := 7) (N := some 21) (v := ?_) (a' := ?_) #[true, true, true, true, true, true, true, true, true, true, true, false, false, false, false, false] rfl rfl (by kernel_rfl) (fun _ _ _ h => h) (Or.inl ⟨by rfl, ?_⟩) hHeld ?_ ?_
        rotate_left
        · rintro w' ⟨s0, s1⟩
          go_simp
          with_reducible rfl
        rotate_left
        · simp only [Act.put, List.setIfInBounds_toArray, List.set_cons_zero, List.set_cons_succ, i64_w, i32_w]
          rfl
        refine take_ (i := 11) (N := some 25) (v := ?_) (a' := ?_) #[true, true, true, true, true, true, true, true, true, true, true, true, false, false, false, false] rfl rfl (by kernel_rfl) (fun _ _ _ h => h) (Or.inl ⟨by rfl, ?_⟩) hHeld ?_ ?_
        rotate_left
        · rintro w' ⟨s0, s1⟩
          go_simp
          with_reducible rfl
        rotate_left
        · simp only [Act.put, List.setIfInBounds_toArray, List.set_cons_zero, List.set_cons_succ, i64_w, i32_w]
          rfl
        refine pure_ (i := 12) (N := some 26) (v := ?_) (a' := ?_) #[true, true, true, true, true, true, true, true, true, true, true, true, true, false, false, false] rfl rfl (by kernel_rfl) (fun _ _ _ h => h) (Or.inl ⟨by rfl, ?_⟩) ?_ ?_
        rotate_left
        · intro w'
          go_simp
          with_reducible rfl
        rotate_left
        · simp only [Act.put, List.setIfInBounds_toArray, List.set_cons_zero, List.set_cons_succ, i64_w, i32_w]
          rfl
        refine last_ (i := 13) (N := none) #[true, true, true, true, true, true, true, true, true, true, true, true, true, true, false, false] rfl rfl (by kernel_rfl) (by decide) (fun K hK => ?_)
        refine skip_ (w1 := ?_) (by rfl) rfl ?_ ?_
        rotate_left
        · go_simp
          rfl
        refine hK.out _ _ ?_
        clear hK K
        refine pure_ (i := 14) (N := some 27) (v := ?_) (a' := ?_) #[true, true, true, true, true, true, true, true, true, true, true, true, true, true, true, false] rfl rfl (by kernel_rfl) (fun _ _ _ h => h) (Or.inl ⟨by rfl, ?_⟩) ?_ ?_
        rotate_left
        · intro w'
          go_simp
          with_reducible rfl
        rotate_left
        · simp only [Act.put, List.setIfInBounds_toArray, List.set_cons_zero, List.set_cons_succ, i64_w, i32_w]
          rfl
        refine last_ (i := 15) (N := none) #[true, true, true, true, true, true, true, true, true, true, true, true, true, true, true, true] rfl rfl (by kernel_rfl) (by decide) (fun K hK => ?_)
        refine skip_ (w1 := ?_) (by rfl) rfl ?_ ?_
        rotate_left
        · go_simp
          rfl
        refine hK.out _ _ ?_
        clear hK K
        refine done_ (by kernel_rfl) ?_
        have SW_ := Aside0.mk (show Srt w g tl (swp dj (i) (j)) ((wr.setCell ⟨g, iz.toNat, none⟩ (.int .u64 x0)).setCell ⟨g, jz.toNat, none⟩ (.int .u64 x1)).drew by rw [P_iz.out.1, P_jz.out.1, X_x1.out, X_x0.out]; exact (SR.out.swp (i) (j) (by rw [HD.out]; exact P_iz.out.2) (by rw [HD.out]; exact P_jz.out.2)).drew)
        clear SR fz1_ fz2_ f2_ c2_ C_x1 C_x0
        have SR := SW_
        clear SW_
        go_wp2
        go_roundg k1
        case measure => exact Nat.lt_succ_self _
        case rel => exact ⟨_, _, i + 1, j - 1, swp dj i j, rfl, rfl, ⟨by have := hi.out; omega⟩, ⟨by have := hj.out; have := LE.out; omega⟩, ⟨by have := hij.out; omega⟩, ⟨by have := hk.out; have := LE.out; omega⟩, ⟨by rw [← rev_go i j dj LE.out]; exact hrv.out⟩, ⟨(swp_size _ _ _).trans HD.out⟩, SR⟩
      · have cnd : decide (iz < jz) = false := decide_eq_false (by have := hi.out; have := hj.out; omega)
        have ST_ := Sz.mk (congrArg Array.size (rev_stop i j dj hle))
        have ST2 := RevIs.mk (rev_stop i j dj hle)
        clear hle ST_
        go_wp2
        go_end0
        exact ⟨rfl, by rw [← hrv.out, ST2.eq]; exact HD.out, by rw [← hrv.out, ST2.eq]; exact SR.out⟩
end Go.Proofs.Ytdhiljimmijghaa.FAll
