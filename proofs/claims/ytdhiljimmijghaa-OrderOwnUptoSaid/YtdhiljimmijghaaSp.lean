/-
  slices.partitionOrdered at []uint64: the library text computes partition.
-/
import Derived.Test.YtdhiljimmijghaaSr
namespace Go.Proofs.Ytdhiljimmijghaa.FAll
open Go.RowKit Go.Sort Go.Proofs.YtdhiljimmijghaaW.PrintWords Go.Proofs.YtdhiljimmijghaaW.PrintLast Go.Proofs.YtdhiljimmijghaaW.PrintMore
set_option linter.unusedVariables false
set_option linter.unusedSimpArgs false
structure Sz (d d2 : Array Int) : Prop where
  out : d.size = d2.size
structure ScanEq (a b : Nat) : Prop where
  eq : a = b
theorem scanUp_go (p : Int → Bool) (d : Array Int) (j i : Nat) (h : i ≤ j) (hp : p d[i]! = true) : scanUp p d j i = scanUp p d j (i + 1) := by rw [scanUp, if_pos (by rw [hp]; simp only [Bool.and_true, decide_eq_true_eq]; exact h)]
theorem scanUp_stop (p : Int → Bool) (d : Array Int) (j i : Nat) (h : ¬ i ≤ j ∨ p d[i]! = false) : scanUp p d j i = i := by
  rw [scanUp, if_neg]
  rcases h with h | h
  · simp only [Bool.and_eq_true, decide_eq_true_eq, not_and]; intro h2; exact absurd h2 h
  · rw [h]; simp
theorem scanDown_go (p : Int → Bool) (d : Array Int) (i j : Nat) (h1 : 1 ≤ j) (h : i ≤ j) (hp : p d[j]! = true) : scanDown p d i j = scanDown p d i (j - 1) := by
  obtain ⟨k, rfl⟩ : ∃ k, j = k + 1 := ⟨j - 1, by omega⟩
  rw [scanDown, if_pos (by rw [hp]; simp only [Bool.and_true, decide_eq_true_eq]; exact h)]
  rfl
theorem scanDown_stop (p : Int → Bool) (d : Array Int) (i j : Nat) (h : ¬ i ≤ j ∨ p d[j]! = false) : scanDown p d i j = j := by
  cases j with
  | zero => rfl
  | succ k =>
    rw [scanDown, if_neg]
    rcases h with h | h
    · simp only [Bool.and_eq_true, decide_eq_true_eq, not_and]; intro h2; exact absurd h2 h
    · rw [h]; simp
theorem partLoop_stop (a i j i2 j2 : Nat) (d : Array Int) (hi : scanUp (fun x => ltInt x d[a]!) d j i = i2) (hj : scanDown (fun x => !ltInt x d[a]!) d i2 j = j2) (h : j2 < i2) : partLoop ltInt a i j d = (j2, d) := by
  rw [partLoop]
  simp only [hi, hj]
  rw [if_pos h]
theorem partLoop_go (a i j i2 j2 : Nat) (d : Array Int) (hi : scanUp (fun x => ltInt x d[a]!) d j i = i2) (hj : scanDown (fun x => !ltInt x d[a]!) d i2 j = j2) (h : ¬ j2 < i2) (h1 : i ≤ i2) (h2 : j2 ≤ j) (h3 : 1 ≤ i) : partLoop ltInt a i j d = partLoop ltInt a (i2 + 1) (j2 - 1) (swp d i2 j2) := by
  rw [partLoop]
  simp only [hi, hj]
  rw [if_neg h, dif_pos (by omega)]
structure PartIs (d : Array Int) (a b pivot j : Nat) (c : Bool) (d' : Array Int) : Prop where
  eq : partition ltInt d a b pivot = (j, c, d')
theorem part_early (d : Array Int) (a b pivot i j : Nat) (d1 : Array Int) (h1 : d1 = swp d a pivot) (hi : scanUp (fun x => ltInt x d1[a]!) d1 (b - 1) (a + 1) = i) (hj : scanDown (fun x => !ltInt x d1[a]!) d1 i (b - 1) = j) (h : j < i) : partition ltInt d a b pivot = (j, true, swp d1 j a) := by
  unfold partition
  simp only [← h1, hi, hj]
  rw [if_pos h]
theorem part_late (d : Array Int) (a b pivot i j : Nat) (d1 : Array Int) (h1 : d1 = swp d a pivot) (hi : scanUp (fun x => ltInt x d1[a]!) d1 (b - 1) (a + 1) = i) (hj : scanDown (fun x => !ltInt x d1[a]!) d1 i (b - 1) = j) (h : ¬ j < i) : partition ltInt d a b pivot = ((partLoop ltInt a (i + 1) (j - 1) (swp d1 i j)).1, false, swp (partLoop ltInt a (i + 1) (j - 1) (swp d1 i j)).2 (partLoop ltInt a (i + 1) (j - 1) (swp d1 i j)).1 a) := by
  unfold partition
  simp only [← h1, hi, hj]
  rw [if_neg h]
structure ScanEqP {α : Type} (a b : α) : Prop where
  eq : a = b
set_option maxHeartbeats 16000000 in
set_option maxRecDepth 100000 in
theorem partition64.calls (w : World) (g cap : Nat) (tl : List Value) (d : Array Int) (a b pivot : Nat) (az bz pz : Int) (haz : Aside0 (az = a)) (hbz : Aside0 (bz = b)) (hpz : Aside0 (pz = pivot)) (hR : Aside0 (Srt w g tl d w)) (hbd : Aside0 (b ≤ d.size)) (hpv : Aside0 (a ≤ pivot ∧ pivot < b)) (hsz : Aside0 (d.size ≤ 1152921504606846976)) :
    Calls Try.prog 47 #[.slice (some ⟨g, 0, none⟩) d.size cap, .int .i64 az, .int .i64 bz, .int .i64 pz] w fun e w' => e = .returned (.tuple #[.int .i64 ((partition ltInt d a b pivot).1 : Nat), .bool (partition ltInt d a b pivot).2.1]) ∧ (partition ltInt d a b pivot).2.2.size = d.size ∧ Srt w g tl (partition ltInt d a b pivot).2.2 w' := by
  have HS0 := Sz.mk (rfl : d.size = d.size)
  have ha_ := haz.out
  have hb_ := hbz.out
  have hp_ := hpz.out
  have hl_ := hpv.out
  have hm_ := hbd.out
  have hn_ := hsz.out
  have P_az := Aside0.mk (⟨by omega, by omega⟩ : az.toNat = a ∧ a < d.size)
  have n1_az := eq_true (show 0 ≤ az by omega)
  have n2_az := eq_true (show az < (d.size : Int) by omega)
  have P_pz := Aside0.mk (⟨by omega, by omega⟩ : pz.toNat = pivot ∧ pivot < d.size)
  have n1_pz := eq_true (show 0 ≤ pz by omega)
  have n2_pz := eq_true (show pz < (d.size : Int) by omega)
  obtain ⟨iz0, hiz⟩ : ∃ iz0 : Int, iz0 = az + 1 := ⟨_, rfl⟩
  obtain ⟨jz0, hjz⟩ : ∃ jz0 : Int, jz0 = bz - 1 := ⟨_, rfl⟩
  obtain ⟨i0, hi0⟩ : ∃ i0 : Nat, i0 = a + 1 := ⟨_, rfl⟩
  obtain ⟨j0, hj0⟩ : ∃ j0 : Nat, j0 = b - 1 := ⟨_, rfl⟩
  have Z_iz0 := Aside0.mk (show iz0 = (i0 : Int) by omega)
  have Z_jz0 := Aside0.mk (show jz0 = (j0 : Int) by omega)
  have wi_ : wrap64 (az + 1) = iz0 := by unfold wrap64; omega
  have wj_ : wrap64 (bz - 1) = jz0 := by unfold wrap64; omega
  have B_i0 := Aside0.mk (show a + 1 ≤ i0 ∧ i0 ≤ b by omega)
  have B_j0 := Aside0.mk (show a ≤ j0 ∧ j0 < b by omega)
  have I0 := Aside0.mk hi0
  have J0 := Aside0.mk hj0
  have SR := hR
  clear hR ha_ hb_ hp_ hl_ hm_ hn_ hiz hjz hi0 hj0
  obtain ⟨xa, hxa⟩ : ∃ xa, xa = d[a]! := ⟨_, rfl⟩
  have X_xa := Aside0.mk hxa
  clear hxa
  have C_xa := Aside0.mk (show w.drew.cell? ⟨g, az.toNat, none⟩ = some (.int .u64 xa) by rw [P_az.out.1, X_xa.out]; exact SR.out.drew.cell (a) (by rw [HS0.out]; exact P_az.out.2))
  obtain ⟨xp, hxp⟩ : ∃ xp, xp = d[pivot]! := ⟨_, rfl⟩
  have X_xp := Aside0.mk hxp
  clear hxp
  have C_xp := Aside0.mk (show w.drew.cell? ⟨g, pz.toNat, none⟩ = some (.int .u64 xp) by rw [P_pz.out.1, X_xp.out]; exact SR.out.drew.cell (pivot) (by rw [HS0.out]; exact P_pz.out.2))
  go_enter Try.func47, Try.ntmps47
  have fz1_ := SR.out.frozen az.toNat
  have fz2_ := SR.out.frozen pz.toNat
  have s2_ := SR.out.set az.toNat (by rw [P_az.out.1, HS0.out]; exact P_az.out.2) xp
  have f2_ := s2_.frozen pz.toNat
  have c2_ := s2_.cell pz.toNat (by rw [Array.size_setIfInBounds, HS0.out, P_pz.out.1]; exact P_pz.out.2)
  clear s2_
  go_wp2
  refine start_ (n := 16) (S := fun w' => w'.cell? ⟨g, az.toNat, none⟩ = some (.int .u64 xa) ∧ w'.cell? ⟨g, pz.toNat, none⟩ = some (.int .u64 xp)) (ds := [13, 15]) #[false, false, false, false, false, false, false, false, false, false, false, false, false, false, false, false] (by kernel_rfl) rfl rfl ⟨C_xa.out, C_xp.out⟩ (fun hHeld => ?_)
  refine pure_ (i := 0) (N := some 12) (v := ?_) (a' := ?_) #[true, false, false, false, false, false, false, false, false, false, false, false, false, false, false, false] rfl rfl (by kernel_rfl) (fun _ _ _ h => h) (Or.inl ⟨by rfl, ?_⟩) ?_ ?_
  rotate_left
  · intro w'
    go_simp
    with_reducible rfl
  rotate_left
  · simp only [Act.put, List.setIfInBounds_toArray, List.set_cons_zero, List.set_cons_succ, i64_w, i32_w]
    rfl
  refine pure_ (i := 1) (N := some 13) (v := ?_) (a' := ?_) #[true, true, false, false, false, false, false, false, false, false, false, false, false, false, false, false] rfl rfl (by kernel_rfl) (fun _ _ _ h => h) (Or.inl ⟨by rfl, ?_⟩) ?_ ?_
  rotate_left
  · intro w'
    go_simp
    with_reducible rfl
  rotate_left
  · simp only [Act.put, List.setIfInBounds_toArray, List.set_cons_zero, List.set_cons_succ, i64_w, i32_w]
    rfl
  refine pure_ (i := 2) (N := some 14) (v := ?_) (a' := ?_) #[true, true, true, false, false, false, false, false, false, false, false, false, false, false, false, false] rfl rfl (by kernel_rfl) (fun _ _ _ h => h) (Or.inl ⟨by rfl, ?_⟩) ?_ ?_
  rotate_left
  · intro w'
    go_simp
    with_reducible rfl
  rotate_left
  · simp only [Act.put, List.setIfInBounds_toArray, List.set_cons_zero, List.set_cons_succ, i64_w, i32_w]
    rfl
  refine pure_ (i := 3) (N := some 15) (v := ?_) (a' := ?_) #[true, true, true, true, false, false, false, false, false, false, false, false, false, false, false, false] rfl rfl (by kernel_rfl) (fun _ _ _ h => h) (Or.inl ⟨by rfl, ?_⟩) ?_ ?_
  rotate_left
  · intro w'
    go_simp
    with_reducible rfl
  rotate_left
  · simp only [Act.put, List.setIfInBounds_toArray, List.set_cons_zero, List.set_cons_succ, i64_w, i32_w]
    rfl
  refine pure_ (i := 4) (N := some 16) (v := ?_) (a' := ?_) #[true, true, true, true, true, false, false, false, false, false, false, false, false, false, false, false] rfl rfl (by kernel_rfl) (fun _ _ _ h => h) (Or.inl ⟨by rfl, ?_⟩) ?_ ?_
  rotate_left
  · intro w'
    go_simp
    with_reducible rfl
  rotate_left
  · simp only [Act.put, List.setIfInBounds_toArray, List.set_cons_zero, List.set_cons_succ, i64_w, i32_w]
    rfl
  refine pure_ (i := 5) (N := some 17) (v := ?_) (a' := ?_) #[true, true, true, true, true, true, false, false, false, false, false, false, false, false, false, false] rfl rfl (by kernel_rfl) (fun _ _ _ h => h) (Or.inl ⟨by rfl, ?_⟩) ?_ ?_
  rotate_left
  · intro w'
    go_simp
    with_reducible rfl
  rotate_left
  · simp only [Act.put, List.setIfInBounds_toArray, List.set_cons_zero, List.set_cons_succ, i64_w, i32_w]
    rfl
  refine pure_ (i := 6) (N := some 18) (v := ?_) (a' := ?_) #[true, true, true, true, true, true, true, false, false, false, false, false, false, false, false, false] rfl rfl (by kernel_rfl) (fun _ _ _ h => h) (Or.inl ⟨by rfl, ?_⟩) ?_ ?_
  rotate_left
  · intro w'
    go_simp
    with_reducible rfl
  rotate_left
  · simp only [Act.put, List.setIfInBounds_toArray, List.set_cons_zero, List.set_cons_succ, i64_w, i32_w]
    rfl
  refine pure_ (i := 8) (N := some 20) (v := ?_) (a' := ?_) #[true, true, true, true, true, true, true, false, true, false, false, false, false, false, false, false] rfl rfl (by kernel_rfl) (fun _ _ _ h => h) (Or.inl ⟨by rfl, ?_⟩) ?_ ?_
  rotate_left
  · intro w'
    go_simp
    with_reducible rfl
  rotate_left
  · simp only [Act.put, List.setIfInBounds_toArray, List.set_cons_zero, List.set_cons_succ, i64_w, i32_w]
    rfl
  refine pure_ (i := 9) (N := some 21) (v := ?_) (a' := ?_) #[true, true, true, true, true, true, true, false, true, true, false, false, false, false, false, false] rfl rfl (by kernel_rfl) (fun _ _ _ h => h) (Or.inl ⟨by rfl, ?_⟩) ?_ ?_
  rotate_left
  · intro w'
    go_simp
    with_reducible rfl
  rotate_left
  · simp only [Act.put, List.setIfInBounds_toArray, List.set_cons_zero, List.set_cons_succ, i64_w, i32_w]
    rfl
  refine pure_ (i := 10) (N := some 22) (v := ?_) (a' := ?_) #[true, true, true, true, true, true, true, false, true, true, true, false, false, false, false, false] rfl rfl (by kernel_rfl) (fun _ _ _ h => h) (Or.inl ⟨by rfl, ?_⟩) ?_ ?_
  rotate_left
  · intro w'
    go_simp
    with_reducible rfl
  rotate_left
  · simp only [Act.put, List.setIfInBounds_toArray, List.set_cons_zero, List.set_cons_succ, i64_w, i32_w]
    rfl
  refine take_ (i := 7) (N := some 19) (v := ?_) (a' := ?_) #[true, true, true, true, true, true, true, true, true, true, true, false, false, false, false, false] rfl rfl (by kernel_rfl) (fun _ _ _ h => h) (Or.inl ⟨by rfl, ?_⟩) hHeld ?_ ?_
  rotate_left
  · rintro w' ⟨s0, s1⟩
    go_simp
    with_reducible rfl
  rotate_left
  · simp only [Act.put, List.setIfInBounds_toArray, List.set_cons_zero, List.set_cons_succ, i64_w, i32_w]
    rfl
  refine take_ (i := 11) (N := some 23) (v := ?_) (a' := ?_) #[true, true, true, true, true, true, true, true, true, true, true, true, false, false, false, false] rfl rfl (by kernel_rfl) (fun _ _ _ h => h) (Or.inl ⟨by rfl, ?_⟩) hHeld ?_ ?_
  rotate_left
  · rintro w' ⟨s0, s1⟩
    go_simp
    with_reducible rfl
  rotate_left
  · simp only [Act.put, List.setIfInBounds_toArray, List.set_cons_zero, List.set_cons_succ, i64_w, i32_w]
    rfl
  refine pure_ (i := 12) (N := some 24) (v := ?_) (a' := ?_) #[true, true, true, true, true, true, true, true, true, true, true, true, true, false, false, false] rfl rfl (by kernel_rfl) (fun _ _ _ h => h) (Or.inl ⟨by rfl, ?_⟩) ?_ ?_
  rotate_left
  · intro w'
    go_simp
    with_reducible rfl
  rotate_left
  · simp only [Act.put, List.setIfInBounds_toArray, List.set_cons_zero, List.set_cons_succ, i64_w, i32_w]
    rfl
  refine last_ (i := 13) (N := none) #[true, true, true, true, true, true, true, true, true, true, true, true, true, true, false, false] rfl rfl (by kernel_rfl) (by decide) (fun K hK => ?_)
  refine skip_ (w1 := ?_) (by rfl) rfl ?_ ?_
  rotate_left
  · go_simp
    rfl
  refine hK.out _ _ ?_
  clear hK K
  refine pure_ (i := 14) (N := some 25) (v := ?_) (a' := ?_) #[true, true, true, true, true, true, true, true, true, true, true, true, true, true, true, false] rfl rfl (by kernel_rfl) (fun _ _ _ h => h) (Or.inl ⟨by rfl, ?_⟩) ?_ ?_
  rotate_left
  · intro w'
    go_simp
    with_reducible rfl
  rotate_left
  · simp only [Act.put, List.setIfInBounds_toArray, List.set_cons_zero, List.set_cons_succ, i64_w, i32_w]
    rfl
  refine last_ (i := 15) (N := none) #[true, true, true, true, true, true, true, true, true, true, true, true, true, true, true, true] rfl rfl (by kernel_rfl) (by decide) (fun K hK => ?_)
  refine skip_ (w1 := ?_) (by rfl) rfl ?_ ?_
  rotate_left
  · go_simp
    rfl
  refine hK.out _ _ ?_
  clear hK K
  refine done_ (by kernel_rfl) ?_
  have SW_ := Aside0.mk (show Srt w g tl (swp d (a) (pivot)) ((w.setCell ⟨g, az.toNat, none⟩ (.int .u64 xp)).setCell ⟨g, pz.toNat, none⟩ (.int .u64 xa)).drew by rw [P_az.out.1, P_pz.out.1, X_xa.out, X_xp.out]; exact (SR.out.swp (a) (pivot) (by rw [HS0.out]; exact P_az.out.2) (by rw [HS0.out]; exact P_pz.out.2)).drew)
  clear SR fz1_ fz2_ f2_ c2_ C_xa C_xp
  have SR := SW_
  clear SW_
  obtain ⟨d1, hd1⟩ : ∃ d1, d1 = swp d a pivot := ⟨_, rfl⟩
  rw [← hd1] at SR
  have D1 := Aside0.mk hd1
  have HD := Aside0.mk (show d1.size = d.size by rw [hd1, swp_size])
  clear hd1 X_xa X_xp
  go_upto_block 0 with (fail)
  simp only [wi_, wj_]
  go_cut [10] from 30 to 45 (fun s_ wc => ∃ (z : Int) (k : Nat), s_ = .int .i64 z ∧ Aside0 (z = k) ∧ Aside0 (i0 ≤ k ∧ k ≤ b) ∧ Aside0 (scanUp (fun x => ltInt x d1[a]!) d1 j0 i0 = k) ∧ Aside0 (Srt w g tl d1 wc))
  case first =>
    go_wp2
    go_loopg [10] (j0 + 2) (fun kq v_ w' => ∃ (z : Int) (k : Nat), v_ = .int .i64 z ∧ Aside0 (z = k) ∧ Aside0 (j0 + 1 - k < kq) ∧ Aside0 (i0 ≤ k ∧ k ≤ b) ∧ Aside0 (scanUp (fun x => ltInt x d1[a]!) d1 j0 k = scanUp (fun x => ltInt x d1[a]!) d1 j0 i0) ∧ Aside0 (Srt w g tl d1 w'))
    case atStart => exact ⟨_, i0, rfl, Z_iz0, ⟨by omega⟩, ⟨Nat.le_refl _, by have := B_i0.out; omega⟩, ⟨rfl⟩, SR⟩
    case round =>
      clear SR
      obtain ⟨z, k, rfl, hz, hk, hkb, hsc, SR⟩ := hrel
      cases gk with
      | zero => exact absurd hk.out (by omega)
      | succ k1 =>
        have hz_ := hz.out
        have hj_ := Z_jz0.out
        have hkb_ := hkb.out
        have hB_ := hbd.out
        have hB1_ := B_i0.out
        have hB2_ := B_j0.out
        have hsz_ := hsz.out
        by_cases hle : k ≤ j0
        · have cnd : decide (z ≤ jz0) = true := decide_eq_true (by omega)
          have w_ : wrap64 (z + 1) = z + 1 := by unfold wrap64; omega
          have LE := Aside0.mk hle
          have P_z := Aside0.mk (⟨by omega, by omega⟩ : z.toNat = k ∧ k < d.size)
          have n1_z := eq_true (show 0 ≤ z by omega)
          have n2_z := eq_true (show z < (d.size : Int) by omega)
          clear hz_ hj_ hkb_ hB_ hB1_ hB2_ hsz_ hle
          obtain ⟨xk, hxk⟩ : ∃ xk, xk = d1[k]! := ⟨_, rfl⟩
          have X_xk := Aside0.mk hxk
          clear hxk
          have C_xk := Aside0.mk (show wr.drew.cell? ⟨g, z.toNat, none⟩ = some (.int .u64 xk) by rw [P_z.out.1, X_xk.out]; exact SR.out.drew.cell (k) (by rw [HD.out]; exact P_z.out.2))
          obtain ⟨xa, hxa⟩ : ∃ xa, xa = d1[a]! := ⟨_, rfl⟩
          have X_xa := Aside0.mk hxa
          clear hxa
          have C_xa := Aside0.mk (show wr.drew.cell? ⟨g, az.toNat, none⟩ = some (.int .u64 xa) by rw [P_az.out.1, X_xa.out]; exact SR.out.drew.cell (a) (by rw [HD.out]; exact P_az.out.2))
          obtain ⟨lb, hlb⟩ : ∃ lb, lb = ltInt xk xa := ⟨_, rfl⟩
          have LB := Aside0.mk hlb
          clear hlb
          go_wp2
          refine start_ (n := 14) (S := fun w' => w'.cell? ⟨g, z.toNat, none⟩ = some (.int .u64 xk) ∧ w'.cell? ⟨g, az.toNat, none⟩ = some (.int .u64 xa)) (ds := []) #[false, false, false, false, false, false, false, false, false, false, false, false, false, false] (by kernel_rfl) rfl rfl ⟨C_xk.out, C_xa.out⟩ (fun hHeld => ?_)
          refine pure_ (i := 0) (N := some 30) (v := ?_) (a' := ?_) #[true, false, false, false, false, false, false, false, false, false, false, false, false, false] rfl rfl (by kernel_rfl) (fun _ _ _ h => h) (Or.inl ⟨by rfl, ?_⟩) ?_ ?_
          rotate_left
          · intro w'
            go_simp
            with_reducible rfl
          rotate_left
          · simp only [Act.put, List.setIfInBounds_toArray, List.set_cons_zero, List.set_cons_succ, i64_w, i32_w]
            rfl
          refine pure_ (i := 1) (N := some 31) (v := ?_) (a' := ?_) #[true, true, false, false, false, false, false, false, false, false, false, false, false, false] rfl rfl (by kernel_rfl) (fun _ _ _ h => h) (Or.inl ⟨by rfl, ?_⟩) ?_ ?_
          rotate_left
          · intro w'
            go_simp
            with_reducible rfl
          rotate_left
          · simp only [Act.put, List.setIfInBounds_toArray, List.set_cons_zero, List.set_cons_succ, i64_w, i32_w]
            rfl
          refine pure_ (i := 2) (N := some 32) (v := ?_) (a' := ?_) #[true, true, true, false, false, false, false, false, false, false, false, false, false, false] rfl rfl (by kernel_rfl) (fun _ _ _ h => h) (Or.inl ⟨by rfl, ?_⟩) ?_ ?_
          rotate_left
          · intro w'
            go_simp
            with_reducible rfl
          rotate_left
          · simp only [Act.put, List.setIfInBounds_toArray, List.set_cons_zero, List.set_cons_succ, i64_w, i32_w]
            rfl
          refine pure_ (i := 3) (N := some 33) (v := ?_) (a' := ?_) #[true, true, true, true, false, false, false, false, false, false, false, false, false, false] rfl rfl (by kernel_rfl) (fun _ _ _ h => h) (Or.inl ⟨by rfl, ?_⟩) ?_ ?_
          rotate_left
          · intro w'
            go_simp
            with_reducible rfl
          rotate_left
          · simp only [Act.put, List.setIfInBounds_toArray, List.set_cons_zero, List.set_cons_succ, i64_w, i32_w]
            rfl
          refine pure_ (i := 4) (N := some 34) (v := ?_) (a' := ?_) #[true, true, true, true, true, false, false, false, false, false, false, false, false, false] rfl rfl (by kernel_rfl) (fun _ _ _ h => h) (Or.inl ⟨by rfl, ?_⟩) ?_ ?_
          rotate_left
          · intro w'
            go_simp
            with_reducible rfl
          rotate_left
          · simp only [Act.put, List.setIfInBounds_toArray, List.set_cons_zero, List.set_cons_succ, i64_w, i32_w]
            rfl
          refine pure_ (i := 5) (N := some 35) (v := ?_) (a' := ?_) #[true, true, true, true, true, true, false, false, false, false, false, false, false, false] rfl rfl (by kernel_rfl) (fun _ _ _ h => h) (Or.inl ⟨by rfl, ?_⟩) ?_ ?_
          rotate_left
          · intro w'
            go_simp
            with_reducible rfl
          rotate_left
          · simp only [Act.put, List.setIfInBounds_toArray, List.set_cons_zero, List.set_cons_succ, i64_w, i32_w]
            rfl
          refine pure_ (i := 6) (N := some 36) (v := ?_) (a' := ?_) #[true, true, true, true, true, true, true, false, false, false, false, false, false, false] rfl rfl (by kernel_rfl) (fun _ _ _ h => h) (Or.inl ⟨by rfl, ?_⟩) ?_ ?_
          rotate_left
          · intro w'
            go_simp
            with_reducible rfl
          rotate_left
          · simp only [Act.put, List.setIfInBounds_toArray, List.set_cons_zero, List.set_cons_succ, i64_w, i32_w]
            rfl
          refine pure_ (i := 8) (N := some 38) (v := ?_) (a' := ?_) #[true, true, true, true, true, true, true, false, true, false, false, false, false, false] rfl rfl (by kernel_rfl) (fun _ _ _ h => h) (Or.inl ⟨by rfl, ?_⟩) ?_ ?_
          rotate_left
          · intro w'
            go_simp
            with_reducible rfl
          rotate_left
          · simp only [Act.put, List.setIfInBounds_toArray, List.set_cons_zero, List.set_cons_succ, i64_w, i32_w]
            rfl
          refine pure_ (i := 9) (N := some 39) (v := ?_) (a' := ?_) #[true, true, true, true, true, true, true, false, true, true, false, false, false, false] rfl rfl (by kernel_rfl) (fun _ _ _ h => h) (Or.inl ⟨by rfl, ?_⟩) ?_ ?_
          rotate_left
          · intro w'
            go_simp
            with_reducible rfl
          rotate_left
          · simp only [Act.put, List.setIfInBounds_toArray, List.set_cons_zero, List.set_cons_succ, i64_w, i32_w]
            rfl
          refine pure_ (i := 10) (N := some 40) (v := ?_) (a' := ?_) #[true, true, true, true, true, true, true, false, true, true, true, false, false, false] rfl rfl (by kernel_rfl) (fun _ _ _ h => h) (Or.inl ⟨by rfl, ?_⟩) ?_ ?_
          rotate_left
          · intro w'
            go_simp
            with_reducible rfl
          rotate_left
          · simp only [Act.put, List.setIfInBounds_toArray, List.set_cons_zero, List.set_cons_succ, i64_w, i32_w]
            rfl
          refine take_ (i := 7) (N := some 37) (v := ?_) (a' := ?_) #[true, true, true, true, true, true, true, true, true, true, true, false, false, false] rfl rfl (by kernel_rfl) (fun _ _ _ h => h) (Or.inl ⟨by rfl, ?_⟩) hHeld ?_ ?_
          rotate_left
          · rintro w' ⟨s0, s1⟩
            go_simp
            with_reducible rfl
          rotate_left
          · simp only [Act.put, List.setIfInBounds_toArray, List.set_cons_zero, List.set_cons_succ, i64_w, i32_w]
            rfl
          refine take_ (i := 11) (N := some 41) (v := ?_) (a' := ?_) #[true, true, true, true, true, true, true, true, true, true, true, true, false, false] rfl rfl (by kernel_rfl) (fun _ _ _ h => h) (Or.inl ⟨by rfl, ?_⟩) hHeld ?_ ?_
          rotate_left
          · rintro w' ⟨s0, s1⟩
            go_simp
            with_reducible rfl
          rotate_left
          · simp only [Act.put, List.setIfInBounds_toArray, List.set_cons_zero, List.set_cons_succ, i64_w, i32_w]
            rfl
          refine one_ (i := 12) (N := some 42) #[true, true, true, true, true, true, true, true, true, true, true, true, true, false] rfl rfl (by kernel_rfl) (by decide) (fun K hK => ?_)
          refine goes_ Try.func45 (by kernel_rfl) rfl #[.int .u64 xk, .int .u64 xa] (by rfl) rfl rfl (by simp only [List.map_toArray, List.map_cons, List.map_nil]; rfl) ?_
          with_reducible refine (Less64.as xk xa _ lb ⟨LB.out⟩).mono ?_
          rintro e w4 ⟨rfl, hbq⟩
          refine ⟨_, rfl, ?_⟩
          have mSR_ := Aside0.mk (SR.out.drew.below hbq)
          clear SR
          have SR := mSR_
          clear mSR_
          refine hK.out _ _ ⟨((hbq.cell (World.block_lt_of_cell? _ _ hHeld.1)).trans hHeld.1), ((hbq.cell (World.block_lt_of_cell? _ _ hHeld.2)).trans hHeld.2)⟩ (fun hHeld => ?_)
          clear hK K
          refine norm_ (a' := ?_) ?_ ?_
          rotate_left
          · show Act.put _ (some 42) _ = _
            simp only [Act.put, List.setIfInBounds_toArray, List.set_cons_zero, List.set_cons_succ, i64_w, i32_w]
            rfl
          refine pure_ (i := 13) (N := some 43) (v := ?_) (a' := ?_) #[true, true, true, true, true, true, true, true, true, true, true, true, true, true] rfl rfl (by kernel_rfl) (fun _ _ _ h => h) (Or.inl ⟨by rfl, ?_⟩) ?_ ?_
          rotate_left
          · intro w'
            go_simp
            with_reducible rfl
          rotate_left
          · simp only [Act.put, List.setIfInBounds_toArray, List.set_cons_zero, List.set_cons_succ, i64_w, i32_w]
            rfl
          refine done_ (by kernel_rfl) ?_
          have T_lb := LB
          clear LB hbq C_xk C_xa
          cases lb
          · have ST_ := ScanEq.mk (scanUp_stop (fun x => ltInt x d1[a]!) d1 j0 k (.inr (by show ltInt d1[k]! d1[a]! = false; rw [← X_xk.out, ← X_xa.out, ← T_lb.out] <;> rfl)))
            go_wp2
            go_meet
            exact ⟨_, k, rfl, hz, hkb, ⟨hsc.out.symm.trans ST_.eq⟩, SR⟩
          · have GO_ := ScanEq.mk (scanUp_go (fun x => ltInt x d1[a]!) d1 j0 k LE.out (by show ltInt d1[k]! d1[a]! = true; rw [← X_xk.out, ← X_xa.out, ← T_lb.out] <;> rfl))
            go_wp2
            go_roundg k1
            case measure => exact Nat.lt_succ_self _
            case rel => exact ⟨_, k + 1, rfl, ⟨by have := hz.out; have := LE.out; have := B_j0.out; omega⟩, ⟨by have := hk.out; have := LE.out; have := B_j0.out; omega⟩, ⟨by have := hkb.out; have := LE.out; have := B_j0.out; omega, by have := hkb.out; have := LE.out; have := B_j0.out; omega⟩, ⟨GO_.eq.symm.trans hsc.out⟩, SR⟩
        · have cnd : decide (z ≤ jz0) = false := decide_eq_false (by omega)
          have ST_ := ScanEq.mk (scanUp_stop (fun x => ltInt x d1[a]!) d1 j0 k (.inl hle))
          clear hz_ hj_ hkb_ hB_ hB1_ hB2_ hsz_ hle
          go_wp2
          refine start_ (n := 14) (S := fun w' => True) (ds := []) #[false, false, false, false, false, false, false, false, false, false, false, false, false, false] (by kernel_rfl) rfl rfl trivial (fun hHeld => ?_)
          refine pure_ (i := 0) (N := some 30) (v := ?_) (a' := ?_) #[true, false, false, false, false, false, false, false, false, false, false, false, false, false] rfl rfl (by kernel_rfl) (fun _ _ _ h => h) (Or.inl ⟨by rfl, ?_⟩) ?_ ?_
          rotate_left
          · intro w'
            go_simp
            with_reducible rfl
          rotate_left
          · simp only [Act.put, List.setIfInBounds_toArray, List.set_cons_zero, List.set_cons_succ, i64_w, i32_w]
            rfl
          refine pure_ (i := 1) (N := some 31) (v := ?_) (a' := ?_) #[true, true, false, false, false, false, false, false, false, false, false, false, false, false] rfl rfl (by kernel_rfl) (fun _ _ _ h => h) (Or.inl ⟨by rfl, ?_⟩) ?_ ?_
          rotate_left
          · intro w'
            go_simp
            with_reducible rfl
          rotate_left
          · simp only [Act.put, List.setIfInBounds_toArray, List.set_cons_zero, List.set_cons_succ, i64_w, i32_w]
            rfl
          refine pure_ (i := 2) (N := some 32) (v := ?_) (a' := ?_) #[true, true, true, false, false, false, false, false, false, false, false, false, false, false] rfl rfl (by kernel_rfl) (fun _ _ _ h => h) (Or.inl ⟨by rfl, ?_⟩) ?_ ?_
          rotate_left
          · intro w'
            go_simp
            with_reducible rfl
          rotate_left
          · simp only [Act.put, List.setIfInBounds_toArray, List.set_cons_zero, List.set_cons_succ, i64_w, i32_w]
            rfl
          refine pure_ (i := 3) (N := some 33) (v := ?_) (a' := ?_) #[true, true, true, true, false, false, false, false, false, false, false, false, false, false] rfl rfl (by kernel_rfl) (fun _ _ _ h => h) (Or.inl ⟨by rfl, ?_⟩) ?_ ?_
          rotate_left
          · intro w'
            go_simp
            with_reducible rfl
          rotate_left
          · simp only [Act.put, List.setIfInBounds_toArray, List.set_cons_zero, List.set_cons_succ, i64_w, i32_w]
            rfl
          refine pure_ (i := 4) (N := some 34) (v := undef) (a' := ?_) #[true, true, true, true, true, false, false, false, false, false, false, false, false, false] rfl rfl (by kernel_rfl) (fun _ _ _ h => h) (Or.inr ⟨by rfl, rfl⟩) ?_ ?_
          rotate_left
          · simp only [Act.put, List.setIfInBounds_toArray, List.set_cons_zero, List.set_cons_succ, i64_w, i32_w]
            rfl
          refine pure_ (i := 5) (N := some 35) (v := undef) (a' := ?_) #[true, true, true, true, true, true, false, false, false, false, false, false, false, false] rfl rfl (by kernel_rfl) (fun _ _ _ h => h) (Or.inr ⟨by rfl, rfl⟩) ?_ ?_
          rotate_left
          · simp only [Act.put, List.setIfInBounds_toArray, List.set_cons_zero, List.set_cons_succ, i64_w, i32_w]
            rfl
          refine pure_ (i := 6) (N := some 36) (v := undef) (a' := ?_) #[true, true, true, true, true, true, true, false, false, false, false, false, false, false] rfl rfl (by kernel_rfl) (fun _ _ _ h => h) (Or.inr ⟨by rfl, rfl⟩) ?_ ?_
          rotate_left
          · simp only [Act.put, List.setIfInBounds_toArray, List.set_cons_zero, List.set_cons_succ, i64_w, i32_w]
            rfl
          refine pure_ (i := 7) (N := some 37) (v := undef) (a' := ?_) #[true, true, true, true, true, true, true, true, false, false, false, false, false, false] rfl rfl (by kernel_rfl) (fun _ _ _ h => h) (Or.inr ⟨by rfl, rfl⟩) ?_ ?_
          rotate_left
          · simp only [Act.put, List.setIfInBounds_toArray, List.set_cons_zero, List.set_cons_succ, i64_w, i32_w]
            rfl
          refine pure_ (i := 8) (N := some 38) (v := undef) (a' := ?_) #[true, true, true, true, true, true, true, true, true, false, false, false, false, false] rfl rfl (by kernel_rfl) (fun _ _ _ h => h) (Or.inr ⟨by rfl, rfl⟩) ?_ ?_
          rotate_left
          · simp only [Act.put, List.setIfInBounds_toArray, List.set_cons_zero, List.set_cons_succ, i64_w, i32_w]
            rfl
          refine pure_ (i := 9) (N := some 39) (v := undef) (a' := ?_) #[true, true, true, true, true, true, true, true, true, true, false, false, false, false] rfl rfl (by kernel_rfl) (fun _ _ _ h => h) (Or.inr ⟨by rfl, rfl⟩) ?_ ?_
          rotate_left
          · simp only [Act.put, List.setIfInBounds_toArray, List.set_cons_zero, List.set_cons_succ, i64_w, i32_w]
            rfl
          refine pure_ (i := 10) (N := some 40) (v := undef) (a' := ?_) #[true, true, true, true, true, true, true, true, true, true, true, false, false, false] rfl rfl (by kernel_rfl) (fun _ _ _ h => h) (Or.inr ⟨by rfl, rfl⟩) ?_ ?_
          rotate_left
          · simp only [Act.put, List.setIfInBounds_toArray, List.set_cons_zero, List.set_cons_succ, i64_w, i32_w]
            rfl
          refine pure_ (i := 11) (N := some 41) (v := undef) (a' := ?_) #[true, true, true, true, true, true, true, true, true, true, true, true, false, false] rfl rfl (by kernel_rfl) (fun _ _ _ h => h) (Or.inr ⟨by rfl, rfl⟩) ?_ ?_
          rotate_left
          · simp only [Act.put, List.setIfInBounds_toArray, List.set_cons_zero, List.set_cons_succ, i64_w, i32_w]
            rfl
          refine pure_ (i := 12) (N := some 42) (v := undef) (a' := ?_) #[true, true, true, true, true, true, true, true, true, true, true, true, true, false] rfl rfl (by kernel_rfl) (fun _ _ _ h => h) (Or.inr ⟨by rfl, rfl⟩) ?_ ?_
          rotate_left
          · simp only [Act.put, List.setIfInBounds_toArray, List.set_cons_zero, List.set_cons_succ, i64_w, i32_w]
            rfl
          refine pure_ (i := 13) (N := some 43) (v := ?_) (a' := ?_) #[true, true, true, true, true, true, true, true, true, true, true, true, true, true] rfl rfl (by kernel_rfl) (fun _ _ _ h => h) (Or.inl ⟨by rfl, ?_⟩) ?_ ?_
          rotate_left
          · intro w'
            go_simp
            with_reducible rfl
          rotate_left
          · simp only [Act.put, List.setIfInBounds_toArray, List.set_cons_zero, List.set_cons_succ, i64_w, i32_w]
            rfl
          refine done_ (by kernel_rfl) ?_
          have SR_ := Aside0.mk SR.out.drew
          clear SR
          go_wp2
          go_meet
          exact ⟨_, k, rfl, hz, hkb, ⟨hsc.out.symm.trans ST_.eq⟩, SR_⟩
  case rest =>
    obtain ⟨iz1, i1, rfl, Z_iz1, B0_i1, SC_i1, SR⟩ := hcut
    have B_i1 := Aside0.mk (show a + 1 ≤ i1 ∧ i1 ≤ b by have := B0_i1.out; have := B_i0.out; omega)
    go_upto_block 2 with (fail)
    go_cut [11] from 46 to 62 (fun s_ wc => ∃ (z : Int) (k : Nat), s_ = .int .i64 z ∧ Aside0 (z = k) ∧ Aside0 (a ≤ k ∧ k ≤ j0) ∧ Aside0 (scanDown (fun x => !ltInt x d1[a]!) d1 i1 j0 = k) ∧ Aside0 (Srt w g tl d1 wc))
    case first =>
      go_wp2
      go_loopg [11] (j0 + 1) (fun kq v_ w' => ∃ (z : Int) (k : Nat), v_ = .int .i64 z ∧ Aside0 (z = k) ∧ Aside0 (k < kq) ∧ Aside0 (a ≤ k ∧ k ≤ j0) ∧ Aside0 (scanDown (fun x => !ltInt x d1[a]!) d1 i1 k = scanDown (fun x => !ltInt x d1[a]!) d1 i1 j0) ∧ Aside0 (Srt w g tl d1 w'))
      case atStart => exact ⟨_, j0, rfl, Z_jz0, ⟨by omega⟩, ⟨by have := B_j0.out; omega, Nat.le_refl _⟩, ⟨rfl⟩, SR⟩
      case round =>
        clear SR
        obtain ⟨z, k, rfl, hz, hk, hkb, hsc, SR⟩ := hrel
        cases gk with
        | zero => exact absurd hk.out (by omega)
        | succ k1 =>
          have hz_ := hz.out
          have hj_ := Z_iz1.out
          have hkb_ := hkb.out
          have hB_ := hbd.out
          have hB1_ := B_j0.out
          have hB2_ := B_i1.out
          have hsz_ := hsz.out
          by_cases hle : i1 ≤ k
          · have cnd : decide (iz1 ≤ z) = true := decide_eq_true (by omega)
            have w_ : wrap64 (z - 1) = z - 1 := by unfold wrap64; omega
            have LE := Aside0.mk hle
            have P_z := Aside0.mk (⟨by omega, by omega⟩ : z.toNat = k ∧ k < d.size)
            have n1_z := eq_true (show 0 ≤ z by omega)
            have n2_z := eq_true (show z < (d.size : Int) by omega)
            clear hz_ hj_ hkb_ hB_ hB1_ hB2_ hsz_ hle
            obtain ⟨xk, hxk⟩ : ∃ xk, xk = d1[k]! := ⟨_, rfl⟩
            have X_xk := Aside0.mk hxk
            clear hxk
            have C_xk := Aside0.mk (show wr.drew.cell? ⟨g, z.toNat, none⟩ = some (.int .u64 xk) by rw [P_z.out.1, X_xk.out]; exact SR.out.drew.cell (k) (by rw [HD.out]; exact P_z.out.2))
            obtain ⟨xa, hxa⟩ : ∃ xa, xa = d1[a]! := ⟨_, rfl⟩
            have X_xa := Aside0.mk hxa
            clear hxa
            have C_xa := Aside0.mk (show wr.drew.cell? ⟨g, az.toNat, none⟩ = some (.int .u64 xa) by rw [P_az.out.1, X_xa.out]; exact SR.out.drew.cell (a) (by rw [HD.out]; exact P_az.out.2))
            obtain ⟨lb, hlb⟩ : ∃ lb, lb = ltInt xk xa := ⟨_, rfl⟩
            have LB := Aside0.mk hlb
            clear hlb
            go_wp2
            refine start_ (n := 15) (S := fun w' => w'.cell? ⟨g, z.toNat, none⟩ = some (.int .u64 xk) ∧ w'.cell? ⟨g, az.toNat, none⟩ = some (.int .u64 xa)) (ds := []) #[false, false, false, false, false, false, false, false, false, false, false, false, false, false, false] (by kernel_rfl) rfl rfl ⟨C_xk.out, C_xa.out⟩ (fun hHeld => ?_)
            refine pure_ (i := 0) (N := some 46) (v := ?_) (a' := ?_) #[true, false, false, false, false, false, false, false, false, false, false, false, false, false, false] rfl rfl (by kernel_rfl) (fun _ _ _ h => h) (Or.inl ⟨by rfl, ?_⟩) ?_ ?_
            rotate_left
            · intro w'
              go_simp
              with_reducible rfl
            rotate_left
            · simp only [Act.put, List.setIfInBounds_toArray, List.set_cons_zero, List.set_cons_succ, i64_w, i32_w]
              rfl
            refine pure_ (i := 1) (N := some 47) (v := ?_) (a' := ?_) #[true, true, false, false, false, false, false, false, false, false, false, false, false, false, false] rfl rfl (by kernel_rfl) (fun _ _ _ h => h) (Or.inl ⟨by rfl, ?_⟩) ?_ ?_
            rotate_left
            · intro w'
              go_simp
              with_reducible rfl
            rotate_left
            · simp only [Act.put, List.setIfInBounds_toArray, List.set_cons_zero, List.set_cons_succ, i64_w, i32_w]
              rfl
            refine pure_ (i := 2) (N := some 48) (v := ?_) (a' := ?_) #[true, true, true, false, false, false, false, false, false, false, false, false, false, false, false] rfl rfl (by kernel_rfl) (fun _ _ _ h => h) (Or.inl ⟨by rfl, ?_⟩) ?_ ?_
            rotate_left
            · intro w'
              go_simp
              with_reducible rfl
            rotate_left
            · simp only [Act.put, List.setIfInBounds_toArray, List.set_cons_zero, List.set_cons_succ, i64_w, i32_w]
              rfl
            refine pure_ (i := 3) (N := some 49) (v := ?_) (a' := ?_) #[true, true, true, true, false, false, false, false, false, false, false, false, false, false, false] rfl rfl (by kernel_rfl) (fun _ _ _ h => h) (Or.inl ⟨by rfl, ?_⟩) ?_ ?_
            rotate_left
            · intro w'
              go_simp
              with_reducible rfl
            rotate_left
            · simp only [Act.put, List.setIfInBounds_toArray, List.set_cons_zero, List.set_cons_succ, i64_w, i32_w]
              rfl
            refine pure_ (i := 4) (N := some 50) (v := ?_) (a' := ?_) #[true, true, true, true, true, false, false, false, false, false, false, false, false, false, false] rfl rfl (by kernel_rfl) (fun _ _ _ h => h) (Or.inl ⟨by rfl, ?_⟩) ?_ ?_
            rotate_left
            · intro w'
              go_simp
              with_reducible rfl
            rotate_left
            · simp only [Act.put, List.setIfInBounds_toArray, List.set_cons_zero, List.set_cons_succ, i64_w, i32_w]
              rfl
            refine pure_ (i := 5) (N := some 51) (v := ?_) (a' := ?_) #[true, true, true, true, true, true, false, false, false, false, false, false, false, false, false] rfl rfl (by kernel_rfl) (fun _ _ _ h => h) (Or.inl ⟨by rfl, ?_⟩) ?_ ?_
            rotate_left
            · intro w'
              go_simp
              with_reducible rfl
            rotate_left
            · simp only [Act.put, List.setIfInBounds_toArray, List.set_cons_zero, List.set_cons_succ, i64_w, i32_w]
              rfl
            refine pure_ (i := 6) (N := some 52) (v := ?_) (a' := ?_) #[true, true, true, true, true, true, true, false, false, false, false, false, false, false, false] rfl rfl (by kernel_rfl) (fun _ _ _ h => h) (Or.inl ⟨by rfl, ?_⟩) ?_ ?_
            rotate_left
            · intro w'
              go_simp
              with_reducible rfl
            rotate_left
            · simp only [Act.put, List.setIfInBounds_toArray, List.set_cons_zero, List.set_cons_succ, i64_w, i32_w]
              rfl
            refine pure_ (i := 8) (N := some 54) (v := ?_) (a' := ?_) #[true, true, true, true, true, true, true, false, true, false, false, false, false, false, false] rfl rfl (by kernel_rfl) (fun _ _ _ h => h) (Or.inl ⟨by rfl, ?_⟩) ?_ ?_
            rotate_left
            · intro w'
              go_simp
              with_reducible rfl
            rotate_left
            · simp only [Act.put, List.setIfInBounds_toArray, List.set_cons_zero, List.set_cons_succ, i64_w, i32_w]
              rfl
            refine pure_ (i := 9) (N := some 55) (v := ?_) (a' := ?_) #[true, true, true, true, true, true, true, false, true, true, false, false, false, false, false] rfl rfl (by kernel_rfl) (fun _ _ _ h => h) (Or.inl ⟨by rfl, ?_⟩) ?_ ?_
            rotate_left
            · intro w'
              go_simp
              with_reducible rfl
            rotate_left
            · simp only [Act.put, List.setIfInBounds_toArray, List.set_cons_zero, List.set_cons_succ, i64_w, i32_w]
              rfl
            refine pure_ (i := 10) (N := some 56) (v := ?_) (a' := ?_) #[true, true, true, true, true, true, true, false, true, true, true, false, false, false, false] rfl rfl (by kernel_rfl) (fun _ _ _ h => h) (Or.inl ⟨by rfl, ?_⟩) ?_ ?_
            rotate_left
            · intro w'
              go_simp
              with_reducible rfl
            rotate_left
            · simp only [Act.put, List.setIfInBounds_toArray, List.set_cons_zero, List.set_cons_succ, i64_w, i32_w]
              rfl
            refine take_ (i := 7) (N := some 53) (v := ?_) (a' := ?_) #[true, true, true, true, true, true, true, true, true, true, true, false, false, false, false] rfl rfl (by kernel_rfl) (fun _ _ _ h => h) (Or.inl ⟨by rfl, ?_⟩) hHeld ?_ ?_
            rotate_left
            · rintro w' ⟨s0, s1⟩
              go_simp
              with_reducible rfl
            rotate_left
            · simp only [Act.put, List.setIfInBounds_toArray, List.set_cons_zero, List.set_cons_succ, i64_w, i32_w]
              rfl
            refine take_ (i := 11) (N := some 57) (v := ?_) (a' := ?_) #[true, true, true, true, true, true, true, true, true, true, true, true, false, false, false] rfl rfl (by kernel_rfl) (fun _ _ _ h => h) (Or.inl ⟨by rfl, ?_⟩) hHeld ?_ ?_
            rotate_left
            · rintro w' ⟨s0, s1⟩
              go_simp
              with_reducible rfl
            rotate_left
            · simp only [Act.put, List.setIfInBounds_toArray, List.set_cons_zero, List.set_cons_succ, i64_w, i32_w]
              rfl
            refine one_ (i := 12) (N := some 58) #[true, true, true, true, true, true, true, true, true, true, true, true, true, false, false] rfl rfl (by kernel_rfl) (by decide) (fun K hK => ?_)
            refine goes_ Try.func45 (by kernel_rfl) rfl #[.int .u64 xk, .int .u64 xa] (by rfl) rfl rfl (by simp only [List.map_toArray, List.map_cons, List.map_nil]; rfl) ?_
            with_reducible refine (Less64.as xk xa _ lb ⟨LB.out⟩).mono ?_
            rintro e w4 ⟨rfl, hbq⟩
            refine ⟨_, rfl, ?_⟩
            have mSR_ := Aside0.mk (SR.out.drew.below hbq)
            clear SR
            have SR := mSR_
            clear mSR_
            refine hK.out _ _ ⟨((hbq.cell (World.block_lt_of_cell? _ _ hHeld.1)).trans hHeld.1), ((hbq.cell (World.block_lt_of_cell? _ _ hHeld.2)).trans hHeld.2)⟩ (fun hHeld => ?_)
            clear hK K
            refine norm_ (a' := ?_) ?_ ?_
            rotate_left
            · show Act.put _ (some 58) _ = _
              simp only [Act.put, List.setIfInBounds_toArray, List.set_cons_zero, List.set_cons_succ, i64_w, i32_w]
              rfl
            refine pure_ (i := 13) (N := some 59) (v := ?_) (a' := ?_) #[true, true, true, true, true, true, true, true, true, true, true, true, true, true, false] rfl rfl (by kernel_rfl) (fun _ _ _ h => h) (Or.inl ⟨by rfl, ?_⟩) ?_ ?_
            rotate_left
            · intro w'
              go_simp
              with_reducible rfl
            rotate_left
            · simp only [Act.put, List.setIfInBounds_toArray, List.set_cons_zero, List.set_cons_succ, i64_w, i32_w]
              rfl
            refine pure_ (i := 14) (N := some 60) (v := ?_) (a' := ?_) #[true, true, true, true, true, true, true, true, true, true, true, true, true, true, true] rfl rfl (by kernel_rfl) (fun _ _ _ h => h) (Or.inl ⟨by rfl, ?_⟩) ?_ ?_
            rotate_left
            · intro w'
              go_simp
              with_reducible rfl
            rotate_left
            · simp only [Act.put, List.setIfInBounds_toArray, List.set_cons_zero, List.set_cons_succ, i64_w, i32_w]
              rfl
            refine done_ (by kernel_rfl) ?_
            have T_lb := LB
            clear LB hbq C_xk C_xa
            cases lb
            · have GO_ := ScanEq.mk (scanDown_go (fun x => !ltInt x d1[a]!) d1 i1 k (by have := LE.out; have := B_i1.out; omega) LE.out (by show (!ltInt d1[k]! d1[a]!) = true; rw [← X_xk.out, ← X_xa.out, ← T_lb.out] <;> rfl))
              go_wp2
              go_roundg k1
              case measure => exact Nat.lt_succ_self _
              case rel => exact ⟨_, k - 1, rfl, ⟨by have := hz.out; have := LE.out; have := B_i1.out; omega⟩, ⟨by have := hk.out; have := LE.out; have := B_i1.out; omega⟩, ⟨by have := hkb.out; have := LE.out; have := B_i1.out; omega, by have := hkb.out; have := LE.out; have := B_i1.out; omega⟩, ⟨GO_.eq.symm.trans hsc.out⟩, SR⟩
            · have ST_ := ScanEq.mk (scanDown_stop (fun x => !ltInt x d1[a]!) d1 i1 k (.inr (by show (!ltInt d1[k]! d1[a]!) = false; rw [← X_xk.out, ← X_xa.out, ← T_lb.out] <;> rfl)))
              go_wp2
              go_meet
              exact ⟨_, k, rfl, hz, hkb, ⟨hsc.out.symm.trans ST_.eq⟩, SR⟩
          · have cnd : decide (iz1 ≤ z) = false := decide_eq_false (by omega)
            have ST_ := ScanEq.mk (scanDown_stop (fun x => !ltInt x d1[a]!) d1 i1 k (.inl hle))
            clear hz_ hj_ hkb_ hB_ hB1_ hB2_ hsz_ hle
            go_wp2
            refine start_ (n := 15) (S := fun w' => True) (ds := []) #[false, false, false, false, false, false, false, false, false, false, false, false, false, false, false] (by kernel_rfl) rfl rfl trivial (fun hHeld => ?_)
            refine pure_ (i := 0) (N := some 46) (v := ?_) (a' := ?_) #[true, false, false, false, false, false, false, false, false, false, false, false, false, false, false] rfl rfl (by kernel_rfl) (fun _ _ _ h => h) (Or.inl ⟨by rfl, ?_⟩) ?_ ?_
            rotate_left
            · intro w'
              go_simp
              with_reducible rfl
            rotate_left
            · simp only [Act.put, List.setIfInBounds_toArray, List.set_cons_zero, List.set_cons_succ, i64_w, i32_w]
              rfl
            refine pure_ (i := 1) (N := some 47) (v := ?_) (a' := ?_) #[true, true, false, false, false, false, false, false, false, false, false, false, false, false, false] rfl rfl (by kernel_rfl) (fun _ _ _ h => h) (Or.inl ⟨by rfl, ?_⟩) ?_ ?_
            rotate_left
            · intro w'
              go_simp
              with_reducible rfl
            rotate_left
            · simp only [Act.put, List.setIfInBounds_toArray, List.set_cons_zero, List.set_cons_succ, i64_w, i32_w]
              rfl
            refine pure_ (i := 2) (N := some 48) (v := ?_) (a' := ?_) #[true, true, true, false, false, false, false, false, false, false, false, false, false, false, false] rfl rfl (by kernel_rfl) (fun _ _ _ h => h) (Or.inl ⟨by rfl, ?_⟩) ?_ ?_
            rotate_left
            · intro w'
              go_simp
              with_reducible rfl
            rotate_left
            · simp only [Act.put, List.setIfInBounds_toArray, List.set_cons_zero, List.set_cons_succ, i64_w, i32_w]
              rfl
            refine pure_ (i := 3) (N := some 49) (v := ?_) (a' := ?_) #[true, true, true, true, false, false, false, false, false, false, false, false, false, false, false] rfl rfl (by kernel_rfl) (fun _ _ _ h => h) (Or.inl ⟨by rfl, ?_⟩) ?_ ?_
            rotate_left
            · intro w'
              go_simp
              with_reducible rfl
            rotate_left
            · simp only [Act.put, List.setIfInBounds_toArray, List.set_cons_zero, List.set_cons_succ, i64_w, i32_w]
              rfl
            refine pure_ (i := 4) (N := some 50) (v := undef) (a' := ?_) #[true, true, true, true, true, false, false, false, false, false, false, false, false, false, false] rfl rfl (by kernel_rfl) (fun _ _ _ h => h) (Or.inr ⟨by rfl, rfl⟩) ?_ ?_
            rotate_left
            · simp only [Act.put, List.setIfInBounds_toArray, List.set_cons_zero, List.set_cons_succ, i64_w, i32_w]
              rfl
            refine pure_ (i := 5) (N := some 51) (v := undef) (a' := ?_) #[true, true, true, true, true, true, false, false, false, false, false, false, false, false, false] rfl rfl (by kernel_rfl) (fun _ _ _ h => h) (Or.inr ⟨by rfl, rfl⟩) ?_ ?_
            rotate_left
            · simp only [Act.put, List.setIfInBounds_toArray, List.set_cons_zero, List.set_cons_succ, i64_w, i32_w]
              rfl
            refine pure_ (i := 6) (N := some 52) (v := undef) (a' := ?_) #[true, true, true, true, true, true, true, false, false, false, false, false, false, false, false] rfl rfl (by kernel_rfl) (fun _ _ _ h => h) (Or.inr ⟨by rfl, rfl⟩) ?_ ?_
            rotate_left
            · simp only [Act.put, List.setIfInBounds_toArray, List.set_cons_zero, List.set_cons_succ, i64_w, i32_w]
              rfl
            refine pure_ (i := 7) (N := some 53) (v := undef) (a' := ?_) #[true, true, true, true, true, true, true, true, false, false, false, false, false, false, false] rfl rfl (by kernel_rfl) (fun _ _ _ h => h) (Or.inr ⟨by rfl, rfl⟩) ?_ ?_
            rotate_left
            · simp only [Act.put, List.setIfInBounds_toArray, List.set_cons_zero, List.set_cons_succ, i64_w, i32_w]
              rfl
            refine pure_ (i := 8) (N := some 54) (v := undef) (a' := ?_) #[true, true, true, true, true, true, true, true, true, false, false, false, false, false, false] rfl rfl (by kernel_rfl) (fun _ _ _ h => h) (Or.inr ⟨by rfl, rfl⟩) ?_ ?_
            rotate_left
            · simp only [Act.put, List.setIfInBounds_toArray, List.set_cons_zero, List.set_cons_succ, i64_w, i32_w]
              rfl
            refine pure_ (i := 9) (N := some 55) (v := undef) (a' := ?_) #[true, true, true, true, true, true, true, true, true, true, false, false, false, false, false] rfl rfl (by kernel_rfl) (fun _ _ _ h => h) (Or.inr ⟨by rfl, rfl⟩) ?_ ?_
            rotate_left
            · simp only [Act.put, List.setIfInBounds_toArray, List.set_cons_zero, List.set_cons_succ, i64_w, i32_w]
              rfl
            refine pure_ (i := 10) (N := some 56) (v := undef) (a' := ?_) #[true, true, true, true, true, true, true, true, true, true, true, false, false, false, false] rfl rfl (by kernel_rfl) (fun _ _ _ h => h) (Or.inr ⟨by rfl, rfl⟩) ?_ ?_
            rotate_left
            · simp only [Act.put, List.setIfInBounds_toArray, List.set_cons_zero, List.set_cons_succ, i64_w, i32_w]
              rfl
            refine pure_ (i := 11) (N := some 57) (v := undef) (a' := ?_) #[true, true, true, true, true, true, true, true, true, true, true, true, false, false, false] rfl rfl (by kernel_rfl) (fun _ _ _ h => h) (Or.inr ⟨by rfl, rfl⟩) ?_ ?_
            rotate_left
            · simp only [Act.put, List.setIfInBounds_toArray, List.set_cons_zero, List.set_cons_succ, i64_w, i32_w]
              rfl
            refine pure_ (i := 12) (N := some 58) (v := undef) (a' := ?_) #[true, true, true, true, true, true, true, true, true, true, true, true, true, false, false] rfl rfl (by kernel_rfl) (fun _ _ _ h => h) (Or.inr ⟨by rfl, rfl⟩) ?_ ?_
            rotate_left
            · simp only [Act.put, List.setIfInBounds_toArray, List.set_cons_zero, List.set_cons_succ, i64_w, i32_w]
              rfl
            refine pure_ (i := 13) (N := some 59) (v := undef) (a' := ?_) #[true, true, true, true, true, true, true, true, true, true, true, true, true, true, false] rfl rfl (by kernel_rfl) (fun _ _ _ h => h) (Or.inr ⟨by rfl, rfl⟩) ?_ ?_
            rotate_left
            · simp only [Act.put, List.setIfInBounds_toArray, List.set_cons_zero, List.set_cons_succ, i64_w, i32_w]
              rfl
            refine pure_ (i := 14) (N := some 60) (v := ?_) (a' := ?_) #[true, true, true, true, true, true, true, true, true, true, true, true, true, true, true] rfl rfl (by kernel_rfl) (fun _ _ _ h => h) (Or.inl ⟨by rfl, ?_⟩) ?_ ?_
            rotate_left
            · intro w'
              go_simp
              with_reducible rfl
            rotate_left
            · simp only [Act.put, List.setIfInBounds_toArray, List.set_cons_zero, List.set_cons_succ, i64_w, i32_w]
              rfl
            refine done_ (by kernel_rfl) ?_
            have SR_ := Aside0.mk SR.out.drew
            clear SR
            go_wp2
            go_meet
            exact ⟨_, k, rfl, hz, hkb, ⟨hsc.out.symm.trans ST_.eq⟩, SR_⟩
    case rest =>
      obtain ⟨jz1, j1, rfl, Z_jz1, B0_j1, SC_j1, SR⟩ := hcut
      have B_j1 := Aside0.mk (show a ≤ j1 ∧ j1 < b by have := B0_j1.out; have := B_j0.out; omega)
      have HI := ScanEq.mk (show scanUp (fun x => ltInt x d1[a]!) d1 (b - 1) (a + 1) = i1 by rw [← I0.out, ← J0.out]; exact SC_i1.out)
      have HJ := ScanEq.mk (show scanDown (fun x => !ltInt x d1[a]!) d1 i1 (b - 1) = j1 by rw [← J0.out]; exact SC_j1.out)
      have h1_ := Z_iz1.out
      have h2_ := Z_jz1.out
      have h3_ := B_j1.out
      have h4_ := hbd.out
      have h5_ := B_i1.out
      have h6_ := hsz.out
      have P_jz1 := Aside0.mk (⟨by omega, by omega⟩ : jz1.toNat = j1 ∧ j1 < d.size)
      have n1_jz1 := eq_true (show 0 ≤ jz1 by omega)
      have n2_jz1 := eq_true (show jz1 < (d.size : Int) by omega)
      by_cases hgt : j1 < i1
      · have cnd : decide (iz1 > jz1) = true := decide_eq_true (by omega)
        have PE := PartIs.mk (part_early d a b pivot i1 j1 d1 D1.out HI.eq HJ.eq hgt)
        clear h1_ h2_ h3_ h4_ h5_ h6_ hgt
        obtain ⟨xj, hxj⟩ : ∃ xj, xj = d1[j1]! := ⟨_, rfl⟩
        have X_xj := Aside0.mk hxj
        clear hxj
        have C_xj := Aside0.mk (show wc.drew.cell? ⟨g, jz1.toNat, none⟩ = some (.int .u64 xj) by rw [P_jz1.out.1, X_xj.out]; exact SR.out.drew.cell (j1) (by rw [HD.out]; exact P_jz1.out.2))
        obtain ⟨xa, hxa⟩ : ∃ xa, xa = d1[a]! := ⟨_, rfl⟩
        have X_xa := Aside0.mk hxa
        clear hxa
        have C_xa := Aside0.mk (show wc.drew.cell? ⟨g, az.toNat, none⟩ = some (.int .u64 xa) by rw [P_az.out.1, X_xa.out]; exact SR.out.drew.cell (a) (by rw [HD.out]; exact P_az.out.2))
        have fz1_ := SR.out.frozen jz1.toNat
        have fz2_ := SR.out.frozen az.toNat
        have s2_ := SR.out.set jz1.toNat (by rw [P_jz1.out.1, HD.out]; exact P_jz1.out.2) xa
        have f2_ := s2_.frozen az.toNat
        have c2_ := s2_.cell az.toNat (by rw [Array.size_setIfInBounds, HD.out, P_az.out.1]; exact P_az.out.2)
        clear s2_
        go_wp2
        refine start_ (n := 16) (S := fun w' => w'.cell? ⟨g, jz1.toNat, none⟩ = some (.int .u64 xj) ∧ w'.cell? ⟨g, az.toNat, none⟩ = some (.int .u64 xa)) (ds := [13, 15]) #[false, false, false, false, false, false, false, false, false, false, false, false, false, false, false, false] (by kernel_rfl) rfl rfl ⟨C_xj.out, C_xa.out⟩ (fun hHeld => ?_)
        refine pure_ (i := 0) (N := some 66) (v := ?_) (a' := ?_) #[true, false, false, false, false, false, false, false, false, false, false, false, false, false, false, false] rfl rfl (by kernel_rfl) (fun _ _ _ h => h) (Or.inl ⟨by rfl, ?_⟩) ?_ ?_
        rotate_left
        · intro w'
          go_simp
          with_reducible rfl
        rotate_left
        · simp only [Act.put, List.setIfInBounds_toArray, List.set_cons_zero, List.set_cons_succ, i64_w, i32_w]
          rfl
        refine pure_ (i := 1) (N := some 67) (v := ?_) (a' := ?_) #[true, true, false, false, false, false, false, false, false, false, false, false, false, false, false, false] rfl rfl (by kernel_rfl) (fun _ _ _ h => h) (Or.inl ⟨by rfl, ?_⟩) ?_ ?_
        rotate_left
        · intro w'
          go_simp
          with_reducible rfl
        rotate_left
        · simp only [Act.put, List.setIfInBounds_toArray, List.set_cons_zero, List.set_cons_succ, i64_w, i32_w]
          rfl
        refine pure_ (i := 2) (N := some 68) (v := ?_) (a' := ?_) #[true, true, true, false, false, false, false, false, false, false, false, false, false, false, false, false] rfl rfl (by kernel_rfl) (fun _ _ _ h => h) (Or.inl ⟨by rfl, ?_⟩) ?_ ?_
        rotate_left
        · intro w'
          go_simp
          with_reducible rfl
        rotate_left
        · simp only [Act.put, List.setIfInBounds_toArray, List.set_cons_zero, List.set_cons_succ, i64_w, i32_w]
          rfl
        refine pure_ (i := 3) (N := some 69) (v := ?_) (a' := ?_) #[true, true, true, true, false, false, false, false, false, false, false, false, false, false, false, false] rfl rfl (by kernel_rfl) (fun _ _ _ h => h) (Or.inl ⟨by rfl, ?_⟩) ?_ ?_
        rotate_left
        · intro w'
          go_simp
          with_reducible rfl
        rotate_left
        · simp only [Act.put, List.setIfInBounds_toArray, List.set_cons_zero, List.set_cons_succ, i64_w, i32_w]
          rfl
        refine pure_ (i := 4) (N := some 70) (v := ?_) (a' := ?_) #[true, true, true, true, true, false, false, false, false, false, false, false, false, false, false, false] rfl rfl (by kernel_rfl) (fun _ _ _ h => h) (Or.inl ⟨by rfl, ?_⟩) ?_ ?_
        rotate_left
        · intro w'
          go_simp
          with_reducible rfl
        rotate_left
        · simp only [Act.put, List.setIfInBounds_toArray, List.set_cons_zero, List.set_cons_succ, i64_w, i32_w]
          rfl
        refine pure_ (i := 5) (N := some 71) (v := ?_) (a' := ?_) #[true, true, true, true, true, true, false, false, false, false, false, false, false, false, false, false] rfl rfl (by kernel_rfl) (fun _ _ _ h => h) (Or.inl ⟨by rfl, ?_⟩) ?_ ?_
        rotate_left
        · intro w'
          go_simp
          with_reducible rfl
        rotate_left
        · simp only [Act.put, List.setIfInBounds_toArray, List.set_cons_zero, List.set_cons_succ, i64_w, i32_w]
          rfl
        refine pure_ (i := 6) (N := some 72) (v := ?_) (a' := ?_) #[true, true, true, true, true, true, true, false, false, false, false, false, false, false, false, false] rfl rfl (by kernel_rfl) (fun _ _ _ h => h) (Or.inl ⟨by rfl, ?_⟩) ?_ ?_
        rotate_left
        · intro w'
          go_simp
          with_reducible rfl
        rotate_left
        · simp only [Act.put, List.setIfInBounds_toArray, List.set_cons_zero, List.set_cons_succ, i64_w, i32_w]
          rfl
        refine pure_ (i := 8) (N := some 74) (v := ?_) (a' := ?_) #[true, true, true, true, true, true, true, false, true, false, false, false, false, false, false, false] rfl rfl (by kernel_rfl) (fun _ _ _ h => h) (Or.inl ⟨by rfl, ?_⟩) ?_ ?_
        rotate_left
        · intro w'
          go_simp
          with_reducible rfl
        rotate_left
        · simp only [Act.put, List.setIfInBounds_toArray, List.set_cons_zero, List.set_cons_succ, i64_w, i32_w]
          rfl
        refine pure_ (i := 9) (N := some 75) (v := ?_) (a' := ?_) #[true, true, true, true, true, true, true, false, true, true, false, false, false, false, false, false] rfl rfl (by kernel_rfl) (fun _ _ _ h => h) (Or.inl ⟨by rfl, ?_⟩) ?_ ?_
        rotate_left
        · intro w'
          go_simp
          with_reducible rfl
        rotate_left
        · simp only [Act.put, List.setIfInBounds_toArray, List.set_cons_zero, List.set_cons_succ, i64_w, i32_w]
          rfl
        refine pure_ (i := 10) (N := some 76) (v := ?_) (a' := ?_) #[true, true, true, true, true, true, true, false, true, true, true, false, false, false, false, false] rfl rfl (by kernel_rfl) (fun _ _ _ h => h) (Or.inl ⟨by rfl, ?_⟩) ?_ ?_
        rotate_left
        · intro w'
          go_simp
          with_reducible rfl
        rotate_left
        · simp only [Act.put, List.setIfInBounds_toArray, List.set_cons_zero, List.set_cons_succ, i64_w, i32_w]
          rfl
        refine take_ (i := 7) (N := some 73) (v := ?_) (a' := ?_) #[true, true, true, true, true, true, true, true, true, true, true, false, false, false, false, false] rfl rfl (by kernel_rfl) (fun _ _ _ h => h) (Or.inl ⟨by rfl, ?_⟩) hHeld ?_ ?_
        rotate_left
        · rintro w' ⟨s0, s1⟩
          go_simp
          with_reducible rfl
        rotate_left
        · simp only [Act.put, List.setIfInBounds_toArray, List.set_cons_zero, List.set_cons_succ, i64_w, i32_w]
          rfl
        refine take_ (i := 11) (N := some 77) (v := ?_) (a' := ?_) #[true, true, true, true, true, true, true, true, true, true, true, true, false, false, false, false] rfl rfl (by kernel_rfl) (fun _ _ _ h => h) (Or.inl ⟨by rfl, ?_⟩) hHeld ?_ ?_
        rotate_left
        · rintro w' ⟨s0, s1⟩
          go_simp
          with_reducible rfl
        rotate_left
        · simp only [Act.put, List.setIfInBounds_toArray, List.set_cons_zero, List.set_cons_succ, i64_w, i32_w]
          rfl
        refine pure_ (i := 12) (N := some 78) (v := ?_) (a' := ?_) #[true, true, true, true, true, true, true, true, true, true, true, true, true, false, false, false] rfl rfl (by kernel_rfl) (fun _ _ _ h => h) (Or.inl ⟨by rfl, ?_⟩) ?_ ?_
        rotate_left
        · intro w'
          go_simp
          with_reducible rfl
        rotate_left
        · simp only [Act.put, List.setIfInBounds_toArray, List.set_cons_zero, List.set_cons_succ, i64_w, i32_w]
          rfl
        refine last_ (i := 13) (N := none) #[true, true, true, true, true, true, true, true, true, true, true, true, true, true, false, false] rfl rfl (by kernel_rfl) (by decide) (fun K hK => ?_)
        refine skip_ (w1 := ?_) (by rfl) rfl ?_ ?_
        rotate_left
        · go_simp
          rfl
        refine hK.out _ _ ?_
        clear hK K
        refine pure_ (i := 14) (N := some 79) (v := ?_) (a' := ?_) #[true, true, true, true, true, true, true, true, true, true, true, true, true, true, true, false] rfl rfl (by kernel_rfl) (fun _ _ _ h => h) (Or.inl ⟨by rfl, ?_⟩) ?_ ?_
        rotate_left
        · intro w'
          go_simp
          with_reducible rfl
        rotate_left
        · simp only [Act.put, List.setIfInBounds_toArray, List.set_cons_zero, List.set_cons_succ, i64_w, i32_w]
          rfl
        refine last_ (i := 15) (N := none) #[true, true, true, true, true, true, true, true, true, true, true, true, true, true, true, true] rfl rfl (by kernel_rfl) (by decide) (fun K hK => ?_)
        refine skip_ (w1 := ?_) (by rfl) rfl ?_ ?_
        rotate_left
        · go_simp
          rfl
        refine hK.out _ _ ?_
        clear hK K
        refine done_ (by kernel_rfl) ?_
        have SW_ := Aside0.mk (show Srt w g tl (swp d1 (j1) (a)) ((wc.setCell ⟨g, jz1.toNat, none⟩ (.int .u64 xa)).setCell ⟨g, az.toNat, none⟩ (.int .u64 xj)).drew by rw [P_jz1.out.1, P_az.out.1, X_xj.out, X_xa.out]; exact (SR.out.swp (j1) (a) (by rw [HD.out]; exact P_jz1.out.2) (by rw [HD.out]; exact P_az.out.2)).drew)
        clear SR fz1_ fz2_ f2_ c2_ C_xj C_xa
        have SR := SW_
        clear SW_
        go_wp2
        go_ret2
        exact ⟨by rw [PE.eq]; show _ = Ending.returned (.tuple #[.int .i64 (j1 : Int), .bool true]); rw [Z_jz1.out]; rfl, by rw [PE.eq]; exact (swp_size _ _ _).trans HD.out, by rw [PE.eq]; exact SR.out⟩
      · have cnd : decide (iz1 > jz1) = false := decide_eq_false (by omega)
        have PE := ScanEqP.mk (part_late d a b pivot i1 j1 d1 D1.out HI.eq HJ.eq hgt)
        have P_iz1 := Aside0.mk (⟨by omega, by omega⟩ : iz1.toNat = i1 ∧ i1 < d.size)
        have n1_iz1 := eq_true (show 0 ≤ iz1 by omega)
        have n2_iz1 := eq_true (show iz1 < (d.size : Int) by omega)
        have wi2_ : wrap64 (iz1 + 1) = iz1 + 1 := by unfold wrap64; omega
        have wj2_ : wrap64 (jz1 - 1) = jz1 - 1 := by unfold wrap64; omega
        have B_s := Aside0.mk (show a + 1 ≤ i1 + 1 ∧ i1 + 1 ≤ b ∧ a ≤ j1 - 1 ∧ j1 - 1 < b ∧ 1 ≤ j1 by omega)
        clear h1_ h2_ h3_ h4_ h5_ h6_ hgt
        obtain ⟨xi, hxi⟩ : ∃ xi, xi = d1[i1]! := ⟨_, rfl⟩
        have X_xi := Aside0.mk hxi
        clear hxi
        have C_xi := Aside0.mk (show wc.drew.cell? ⟨g, iz1.toNat, none⟩ = some (.int .u64 xi) by rw [P_iz1.out.1, X_xi.out]; exact SR.out.drew.cell (i1) (by rw [HD.out]; exact P_iz1.out.2))
        obtain ⟨xj, hxj⟩ : ∃ xj, xj = d1[j1]! := ⟨_, rfl⟩
        have X_xj := Aside0.mk hxj
        clear hxj
        have C_xj := Aside0.mk (show wc.drew.cell? ⟨g, jz1.toNat, none⟩ = some (.int .u64 xj) by rw [P_jz1.out.1, X_xj.out]; exact SR.out.drew.cell (j1) (by rw [HD.out]; exact P_jz1.out.2))
        have fz1_ := SR.out.frozen iz1.toNat
        have fz2_ := SR.out.frozen jz1.toNat
        have s2_ := SR.out.set iz1.toNat (by rw [P_iz1.out.1, HD.out]; exact P_iz1.out.2) xj
        have f2_ := s2_.frozen jz1.toNat
        have c2_ := s2_.cell jz1.toNat (by rw [Array.size_setIfInBounds, HD.out, P_jz1.out.1]; exact P_jz1.out.2)
        clear s2_
        go_wp2
        refine start_ (n := 16) (S := fun w' => w'.cell? ⟨g, iz1.toNat, none⟩ = some (.int .u64 xi) ∧ w'.cell? ⟨g, jz1.toNat, none⟩ = some (.int .u64 xj)) (ds := [13, 15]) #[false, false, false, false, false, false, false, false, false, false, false, false, false, false, false, false] (by kernel_rfl) rfl rfl ⟨C_xi.out, C_xj.out⟩ (fun hHeld => ?_)
        refine pure_ (i := 0) (N := some 81) (v := ?_) (a' := ?_) #[true, false, false, false, false, false, false, false, false, false, false, false, false, false, false, false] rfl rfl (by kernel_rfl) (fun _ _ _ h => h) (Or.inl ⟨by rfl, ?_⟩) ?_ ?_
        rotate_left
        · intro w'
          go_simp
          with_reducible rfl
        rotate_left
        · simp only [Act.put, List.setIfInBounds_toArray, List.set_cons_zero, List.set_cons_succ, i64_w, i32_w]
          rfl
        refine pure_ (i := 1) (N := some 82) (v := ?_) (a' := ?_) #[true, true, false, false, false, false, false, false, false, false, false, false, false, false, false, false] rfl rfl (by kernel_rfl) (fun _ _ _ h => h) (Or.inl ⟨by rfl, ?_⟩) ?_ ?_
        rotate_left
        · intro w'
          go_simp
          with_reducible rfl
        rotate_left
        · simp only [Act.put, List.setIfInBounds_toArray, List.set_cons_zero, List.set_cons_succ, i64_w, i32_w]
          rfl
        refine pure_ (i := 2) (N := some 83) (v := ?_) (a' := ?_) #[true, true, true, false, false, false, false, false, false, false, false, false, false, false, false, false] rfl rfl (by kernel_rfl) (fun _ _ _ h => h) (Or.inl ⟨by rfl, ?_⟩) ?_ ?_
        rotate_left
        · intro w'
          go_simp
          with_reducible rfl
        rotate_left
        · simp only [Act.put, List.setIfInBounds_toArray, List.set_cons_zero, List.set_cons_succ, i64_w, i32_w]
          rfl
        refine pure_ (i := 3) (N := some 84) (v := ?_) (a' := ?_) #[true, true, true, true, false, false, false, false, false, false, false, false, false, false, false, false] rfl rfl (by kernel_rfl) (fun _ _ _ h => h) (Or.inl ⟨by rfl, ?_⟩) ?_ ?_
        rotate_left
        · intro w'
          go_simp
          with_reducible rfl
        rotate_left
        · simp only [Act.put, List.setIfInBounds_toArray, List.set_cons_zero, List.set_cons_succ, i64_w, i32_w]
          rfl
        refine pure_ (i := 4) (N := some 85) (v := ?_) (a' := ?_) #[true, true, true, true, true, false, false, false, false, false, false, false, false, false, false, false] rfl rfl (by kernel_rfl) (fun _ _ _ h => h) (Or.inl ⟨by rfl, ?_⟩) ?_ ?_
        rotate_left
        · intro w'
          go_simp
          with_reducible rfl
        rotate_left
        · simp only [Act.put, List.setIfInBounds_toArray, List.set_cons_zero, List.set_cons_succ, i64_w, i32_w]
          rfl
        refine pure_ (i := 5) (N := some 86) (v := ?_) (a' := ?_) #[true, true, true, true, true, true, false, false, false, false, false, false, false, false, false, false] rfl rfl (by kernel_rfl) (fun _ _ _ h => h) (Or.inl ⟨by rfl, ?_⟩) ?_ ?_
        rotate_left
        · intro w'
          go_simp
          with_reducible rfl
        rotate_left
        · simp only [Act.put, List.setIfInBounds_toArray, List.set_cons_zero, List.set_cons_succ, i64_w, i32_w]
          rfl
        refine pure_ (i := 6) (N := some 87) (v := ?_) (a' := ?_) #[true, true, true, true, true, true, true, false, false, false, false, false, false, false, false, false] rfl rfl (by kernel_rfl) (fun _ _ _ h => h) (Or.inl ⟨by rfl, ?_⟩) ?_ ?_
        rotate_left
        · intro w'
          go_simp
          with_reducible rfl
        rotate_left
        · simp only [Act.put, List.setIfInBounds_toArray, List.set_cons_zero, List.set_cons_succ, i64_w, i32_w]
          rfl
        refine pure_ (i := 8) (N := some 89) (v := ?_) (a' := ?_) #[true, true, true, true, true, true, true, false, true, false, false, false, false, false, false, false] rfl rfl (by kernel_rfl) (fun _ _ _ h => h) (Or.inl ⟨by rfl, ?_⟩) ?_ ?_
        rotate_left
        · intro w'
          go_simp
          with_reducible rfl
        rotate_left
        · simp only [Act.put, List.setIfInBounds_toArray, List.set_cons_zero, List.set_cons_succ, i64_w, i32_w]
          rfl
        refine pure_ (i := 9) (N := some 90) (v := ?_) (a' := ?_) #[true, true, true, true, true, true, true, false, true, true, false, false, false, false, false, false] rfl rfl (by kernel_rfl) (fun _ _ _ h => h) (Or.inl ⟨by rfl, ?_⟩) ?_ ?_
        rotate_left
        · intro w'
          go_simp
          with_reducible rfl
        rotate_left
        · simp only [Act.put, List.setIfInBounds_toArray, List.set_cons_zero, List.set_cons_succ, i64_w, i32_w]
          rfl
        refine pure_ (i := 10) (N := some 91) (v := ?_) (a' := ?_) #[true, true, true, true, true, true, true, false, true, true, true, false, false, false, false, false] rfl rfl (by kernel_rfl) (fun _ _ _ h => h) (Or.inl ⟨by rfl, ?_⟩) ?_ ?_
        rotate_left
        · intro w'
          go_simp
          with_reducible rfl
        rotate_left
        · simp only [Act.put, List.setIfInBounds_toArray, List.set_cons_zero, List.set_cons_succ, i64_w, i32_w]
          rfl
        refine take_ (i := 7) (N := some 88) (v := ?_) (a' := ?_) #[true, true, true, true, true, true, true, true, true, true, true, false, false, false, false, false] rfl rfl (by kernel_rfl) (fun _ _ _ h => h) (Or.inl ⟨by rfl, ?_⟩) hHeld ?_ ?_
        rotate_left
        · rintro w' ⟨s0, s1⟩
          go_simp
          with_reducible rfl
        rotate_left
        · simp only [Act.put, List.setIfInBounds_toArray, List.set_cons_zero, List.set_cons_succ, i64_w, i32_w]
          rfl
        refine take_ (i := 11) (N := some 92) (v := ?_) (a' := ?_) #[true, true, true, true, true, true, true, true, true, true, true, true, false, false, false, false] rfl rfl (by kernel_rfl) (fun _ _ _ h => h) (Or.inl ⟨by rfl, ?_⟩) hHeld ?_ ?_
        rotate_left
        · rintro w' ⟨s0, s1⟩
          go_simp
          with_reducible rfl
        rotate_left
        · simp only [Act.put, List.setIfInBounds_toArray, List.set_cons_zero, List.set_cons_succ, i64_w, i32_w]
          rfl
        refine pure_ (i := 12) (N := some 93) (v := ?_) (a' := ?_) #[true, true, true, true, true, true, true, true, true, true, true, true, true, false, false, false] rfl rfl (by kernel_rfl) (fun _ _ _ h => h) (Or.inl ⟨by rfl, ?_⟩) ?_ ?_
        rotate_left
        · intro w'
          go_simp
          with_reducible rfl
        rotate_left
        · simp only [Act.put, List.setIfInBounds_toArray, List.set_cons_zero, List.set_cons_succ, i64_w, i32_w]
          rfl
        refine last_ (i := 13) (N := none) #[true, true, true, true, true, true, true, true, true, true, true, true, true, true, false, false] rfl rfl (by kernel_rfl) (by decide) (fun K hK => ?_)
        refine skip_ (w1 := ?_) (by rfl) rfl ?_ ?_
        rotate_left
        · go_simp
          rfl
        refine hK.out _ _ ?_
        clear hK K
        refine pure_ (i := 14) (N := some 94) (v := ?_) (a' := ?_) #[true, true, true, true, true, true, true, true, true, true, true, true, true, true, true, false] rfl rfl (by kernel_rfl) (fun _ _ _ h => h) (Or.inl ⟨by rfl, ?_⟩) ?_ ?_
        rotate_left
        · intro w'
          go_simp
          with_reducible rfl
        rotate_left
        · simp only [Act.put, List.setIfInBounds_toArray, List.set_cons_zero, List.set_cons_succ, i64_w, i32_w]
          rfl
        refine last_ (i := 15) (N := none) #[true, true, true, true, true, true, true, true, true, true, true, true, true, true, true, true] rfl rfl (by kernel_rfl) (by decide) (fun K hK => ?_)
        refine skip_ (w1 := ?_) (by rfl) rfl ?_ ?_
        rotate_left
        · go_simp
          rfl
        refine hK.out _ _ ?_
        clear hK K
        refine done_ (by kernel_rfl) ?_
        have SW_ := Aside0.mk (show Srt w g tl (swp d1 (i1) (j1)) ((wc.setCell ⟨g, iz1.toNat, none⟩ (.int .u64 xj)).setCell ⟨g, jz1.toNat, none⟩ (.int .u64 xi)).drew by rw [P_iz1.out.1, P_jz1.out.1, X_xi.out, X_xj.out]; exact (SR.out.swp (i1) (j1) (by rw [HD.out]; exact P_iz1.out.2) (by rw [HD.out]; exact P_jz1.out.2)).drew)
        clear SR fz1_ fz2_ f2_ c2_ C_xi C_xj
        have SR := SW_
        clear SW_
        obtain ⟨d2, hd2⟩ : ∃ d2, d2 = swp d1 i1 j1 := ⟨_, rfl⟩
        rw [← hd2] at SR
        have D2 := Aside0.mk hd2
        have HD2 := Aside0.mk (show d2.size = d.size by rw [hd2, swp_size, HD.out])
        have PE2 := ScanEqP.mk (show partition ltInt d a b pivot = ((partLoop ltInt a (i1 + 1) (j1 - 1) d2).1, false, swp (partLoop ltInt a (i1 + 1) (j1 - 1) d2).2 (partLoop ltInt a (i1 + 1) (j1 - 1) d2).1 a) by rw [hd2]; exact PE.eq)
        clear hd2 X_xi X_xj PE
        go_wp2
        simp only [wi2_, wj2_]
        go_loopg [10, 11] (b + 1) (fun kq v10 v11 w' => ∃ (iz2 jz2 : Int) (i2 j2 : Nat) (dj : Array Int), v10 = .int .i64 iz2 ∧ v11 = .int .i64 jz2 ∧ Aside0 (iz2 = i2) ∧ Aside0 (jz2 = j2) ∧ Aside0 (a + 1 ≤ i2 ∧ i2 ≤ b) ∧ Aside0 (a ≤ j2 ∧ j2 < b) ∧ Aside0 (b - i2 < kq) ∧ Aside0 (partLoop ltInt a i2 j2 dj = partLoop ltInt a (i1 + 1) (j1 - 1) d2) ∧ Aside0 (dj.size = d.size) ∧ Aside0 (Srt w g tl dj w'))
        case atStart => exact ⟨_, _, i1 + 1, j1 - 1, d2, rfl, rfl, ⟨by have := Z_iz1.out; omega⟩, ⟨by have := Z_jz1.out; have := B_s.out; omega⟩, ⟨by have := B_s.out; omega⟩, ⟨by have := B_s.out; omega⟩, ⟨by omega⟩, ⟨rfl⟩, HD2, SR⟩
        case round =>
          clear SR HD
          obtain ⟨iz2, jz2, i2, j2, dj, rfl, rfl, Z_iz2, Z_jz2, B_i2, B_j2, hkO, hpl, HD, SR⟩ := hrel
          cases gk with
          | zero => exact absurd hkO.out (by omega)
          | succ kO =>
            go_upto_block 6 with (fail)
            go_cut [10] from 99 to 114 (fun s_ wc => ∃ (z : Int) (k : Nat), s_ = .int .i64 z ∧ Aside0 (z = k) ∧ Aside0 (i2 ≤ k ∧ k ≤ b) ∧ Aside0 (scanUp (fun x => ltInt x dj[a]!) dj j2 i2 = k) ∧ Aside0 (Srt w g tl dj wc))
            case first =>
              go_wp2
              go_loopg [10] (j2 + 2) (fun kq v_ w' => ∃ (z : Int) (k : Nat), v_ = .int .i64 z ∧ Aside0 (z = k) ∧ Aside0 (j2 + 1 - k < kq) ∧ Aside0 (i2 ≤ k ∧ k ≤ b) ∧ Aside0 (scanUp (fun x => ltInt x dj[a]!) dj j2 k = scanUp (fun x => ltInt x dj[a]!) dj j2 i2) ∧ Aside0 (Srt w g tl dj w'))
              case atStart => exact ⟨_, i2, rfl, Z_iz2, ⟨by omega⟩, ⟨Nat.le_refl _, by have := B_i2.out; omega⟩, ⟨rfl⟩, SR⟩
              case round =>
                clear SR
                obtain ⟨z, k, rfl, hz, hk, hkb, hsc, SR⟩ := hrel
                cases gk with
                | zero => exact absurd hk.out (by omega)
                | succ k1 =>
                  have hz_ := hz.out
                  have hj_ := Z_jz2.out
                  have hkb_ := hkb.out
                  have hB_ := hbd.out
                  have hB1_ := B_i2.out
                  have hB2_ := B_j2.out
                  have hsz_ := hsz.out
                  by_cases hle : k ≤ j2
                  · have cnd : decide (z ≤ jz2) = true := decide_eq_true (by omega)
                    have w_ : wrap64 (z + 1) = z + 1 := by unfold wrap64; omega
                    have LE := Aside0.mk hle
                    have P_z := Aside0.mk (⟨by omega, by omega⟩ : z.toNat = k ∧ k < d.size)
                    have n1_z := eq_true (show 0 ≤ z by omega)
                    have n2_z := eq_true (show z < (d.size : Int) by omega)
                    clear hz_ hj_ hkb_ hB_ hB1_ hB2_ hsz_ hle
                    obtain ⟨xk, hxk⟩ : ∃ xk, xk = dj[k]! := ⟨_, rfl⟩
                    have X_xk := Aside0.mk hxk
                    clear hxk
                    have C_xk := Aside0.mk (show wr.drew.cell? ⟨g, z.toNat, none⟩ = some (.int .u64 xk) by rw [P_z.out.1, X_xk.out]; exact SR.out.drew.cell (k) (by rw [HD.out]; exact P_z.out.2))
                    obtain ⟨xa, hxa⟩ : ∃ xa, xa = dj[a]! := ⟨_, rfl⟩
                    have X_xa := Aside0.mk hxa
                    clear hxa
                    have C_xa := Aside0.mk (show wr.drew.cell? ⟨g, az.toNat, none⟩ = some (.int .u64 xa) by rw [P_az.out.1, X_xa.out]; exact SR.out.drew.cell (a) (by rw [HD.out]; exact P_az.out.2))
                    obtain ⟨lb, hlb⟩ : ∃ lb, lb = ltInt xk xa := ⟨_, rfl⟩
                    have LB := Aside0.mk hlb
                    clear hlb
                    go_wp2
                    refine start_ (n := 14) (S := fun w' => w'.cell? ⟨g, z.toNat, none⟩ = some (.int .u64 xk) ∧ w'.cell? ⟨g, az.toNat, none⟩ = some (.int .u64 xa)) (ds := []) #[false, false, false, false, false, false, false, false, false, false, false, false, false, false] (by kernel_rfl) rfl rfl ⟨C_xk.out, C_xa.out⟩ (fun hHeld => ?_)
                    refine pure_ (i := 0) (N := some 99) (v := ?_) (a' := ?_) #[true, false, false, false, false, false, false, false, false, false, false, false, false, false] rfl rfl (by kernel_rfl) (fun _ _ _ h => h) (Or.inl ⟨by rfl, ?_⟩) ?_ ?_
                    rotate_left
                    · intro w'
                      go_simp
                      with_reducible rfl
                    rotate_left
                    · simp only [Act.put, List.setIfInBounds_toArray, List.set_cons_zero, List.set_cons_succ, i64_w, i32_w]
                      rfl
                    refine pure_ (i := 1) (N := some 100) (v := ?_) (a' := ?_) #[true, true, false, false, false, false, false, false, false, false, false, false, false, false] rfl rfl (by kernel_rfl) (fun _ _ _ h => h) (Or.inl ⟨by rfl, ?_⟩) ?_ ?_
                    rotate_left
                    · intro w'
                      go_simp
                      with_reducible rfl
                    rotate_left
                    · simp only [Act.put, List.setIfInBounds_toArray, List.set_cons_zero, List.set_cons_succ, i64_w, i32_w]
                      rfl
                    refine pure_ (i := 2) (N := some 101) (v := ?_) (a' := ?_) #[true, true, true, false, false, false, false, false, false, false, false, false, false, false] rfl rfl (by kernel_rfl) (fun _ _ _ h => h) (Or.inl ⟨by rfl, ?_⟩) ?_ ?_
                    rotate_left
                    · intro w'
                      go_simp
                      with_reducible rfl
                    rotate_left
                    · simp only [Act.put, List.setIfInBounds_toArray, List.set_cons_zero, List.set_cons_succ, i64_w, i32_w]
                      rfl
                    refine pure_ (i := 3) (N := some 102) (v := ?_) (a' := ?_) #[true, true, true, true, false, false, false, false, false, false, false, false, false, false] rfl rfl (by kernel_rfl) (fun _ _ _ h => h) (Or.inl ⟨by rfl, ?_⟩) ?_ ?_
                    rotate_left
                    · intro w'
                      go_simp
                      with_reducible rfl
                    rotate_left
                    · simp only [Act.put, List.setIfInBounds_toArray, List.set_cons_zero, List.set_cons_succ, i64_w, i32_w]
                      rfl
                    refine pure_ (i := 4) (N := some 103) (v := ?_) (a' := ?_) #[true, true, true, true, true, false, false, false, false, false, false, false, false, false] rfl rfl (by kernel_rfl) (fun _ _ _ h => h) (Or.inl ⟨by rfl, ?_⟩) ?_ ?_
                    rotate_left
                    · intro w'
                      go_simp
                      with_reducible rfl
                    rotate_left
                    · simp only [Act.put, List.setIfInBounds_toArray, List.set_cons_zero, List.set_cons_succ, i64_w, i32_w]
                      rfl
                    refine pure_ (i := 5) (N := some 104) (v := ?_) (a' := ?_) #[true, true, true, true, true, true, false, false, false, false, false, false, false, false] rfl rfl (by kernel_rfl) (fun _ _ _ h => h) (Or.inl ⟨by rfl, ?_⟩) ?_ ?_
                    rotate_left
                    · intro w'
                      go_simp
                      with_reducible rfl
                    rotate_left
                    · simp only [Act.put, List.setIfInBounds_toArray, List.set_cons_zero, List.set_cons_succ, i64_w, i32_w]
                      rfl
                    refine pure_ (i := 6) (N := some 105) (v := ?_) (a' := ?_) #[true, true, true, true, true, true, true, false, false, false, false, false, false, false] rfl rfl (by kernel_rfl) (fun _ _ _ h => h) (Or.inl ⟨by rfl, ?_⟩) ?_ ?_
                    rotate_left
                    · intro w'
                      go_simp
                      with_reducible rfl
                    rotate_left
                    · simp only [Act.put, List.setIfInBounds_toArray, List.set_cons_zero, List.set_cons_succ, i64_w, i32_w]
                      rfl
                    refine pure_ (i := 8) (N := some 107) (v := ?_) (a' := ?_) #[true, true, true, true, true, true, true, false, true, false, false, false, false, false] rfl rfl (by kernel_rfl) (fun _ _ _ h => h) (Or.inl ⟨by rfl, ?_⟩) ?_ ?_
                    rotate_left
                    · intro w'
                      go_simp
                      with_reducible rfl
                    rotate_left
                    · simp only [Act.put, List.setIfInBounds_toArray, List.set_cons_zero, List.set_cons_succ, i64_w, i32_w]
                      rfl
                    refine pure_ (i := 9) (N := some 108) (v := ?_) (a' := ?_) #[true, true, true, true, true, true, true, false, true, true, false, false, false, false] rfl rfl (by kernel_rfl) (fun _ _ _ h => h) (Or.inl ⟨by rfl, ?_⟩) ?_ ?_
                    rotate_left
                    · intro w'
                      go_simp
                      with_reducible rfl
                    rotate_left
                    · simp only [Act.put, List.setIfInBounds_toArray, List.set_cons_zero, List.set_cons_succ, i64_w, i32_w]
                      rfl
                    refine pure_ (i := 10) (N := some 109) (v := ?_) (a' := ?_) #[true, true, true, true, true, true, true, false, true, true, true, false, false, false] rfl rfl (by kernel_rfl) (fun _ _ _ h => h) (Or.inl ⟨by rfl, ?_⟩) ?_ ?_
                    rotate_left
                    · intro w'
                      go_simp
                      with_reducible rfl
                    rotate_left
                    · simp only [Act.put, List.setIfInBounds_toArray, List.set_cons_zero, List.set_cons_succ, i64_w, i32_w]
                      rfl
                    refine take_ (i := 7) (N := some 106) (v := ?_) (a' := ?_) #[true, true, true, true, true, true, true, true, true, true, true, false, false, false] rfl rfl (by kernel_rfl) (fun _ _ _ h => h) (Or.inl ⟨by rfl, ?_⟩) hHeld ?_ ?_
                    rotate_left
                    · rintro w' ⟨s0, s1⟩
                      go_simp
                      with_reducible rfl
                    rotate_left
                    · simp only [Act.put, List.setIfInBounds_toArray, List.set_cons_zero, List.set_cons_succ, i64_w, i32_w]
                      rfl
                    refine take_ (i := 11) (N := some 110) (v := ?_) (a' := ?_) #[true, true, true, true, true, true, true, true, true, true, true, true, false, false] rfl rfl (by kernel_rfl) (fun _ _ _ h => h) (Or.inl ⟨by rfl, ?_⟩) hHeld ?_ ?_
                    rotate_left
                    · rintro w' ⟨s0, s1⟩
                      go_simp
                      with_reducible rfl
                    rotate_left
                    · simp only [Act.put, List.setIfInBounds_toArray, List.set_cons_zero, List.set_cons_succ, i64_w, i32_w]
                      rfl
                    refine one_ (i := 12) (N := some 111) #[true, true, true, true, true, true, true, true, true, true, true, true, true, false] rfl rfl (by kernel_rfl) (by decide) (fun K hK => ?_)
                    refine goes_ Try.func45 (by kernel_rfl) rfl #[.int .u64 xk, .int .u64 xa] (by rfl) rfl rfl (by simp only [List.map_toArray, List.map_cons, List.map_nil]; rfl) ?_
                    with_reducible refine (Less64.as xk xa _ lb ⟨LB.out⟩).mono ?_
                    rintro e w4 ⟨rfl, hbq⟩
                    refine ⟨_, rfl, ?_⟩
                    have mSR_ := Aside0.mk (SR.out.drew.below hbq)
                    clear SR
                    have SR := mSR_
                    clear mSR_
                    refine hK.out _ _ ⟨((hbq.cell (World.block_lt_of_cell? _ _ hHeld.1)).trans hHeld.1), ((hbq.cell (World.block_lt_of_cell? _ _ hHeld.2)).trans hHeld.2)⟩ (fun hHeld => ?_)
                    clear hK K
                    refine norm_ (a' := ?_) ?_ ?_
                    rotate_left
                    · show Act.put _ (some 111) _ = _
                      simp only [Act.put, List.setIfInBounds_toArray, List.set_cons_zero, List.set_cons_succ, i64_w, i32_w]
                      rfl
                    refine pure_ (i := 13) (N := some 112) (v := ?_) (a' := ?_) #[true, true, true, true, true, true, true, true, true, true, true, true, true, true] rfl rfl (by kernel_rfl) (fun _ _ _ h => h) (Or.inl ⟨by rfl, ?_⟩) ?_ ?_
                    rotate_left
                    · intro w'
                      go_simp
                      with_reducible rfl
                    rotate_left
                    · simp only [Act.put, List.setIfInBounds_toArray, List.set_cons_zero, List.set_cons_succ, i64_w, i32_w]
                      rfl
                    refine done_ (by kernel_rfl) ?_
                    have T_lb := LB
                    clear LB hbq C_xk C_xa
                    cases lb
                    · have ST_ := ScanEq.mk (scanUp_stop (fun x => ltInt x dj[a]!) dj j2 k (.inr (by show ltInt dj[k]! dj[a]! = false; rw [← X_xk.out, ← X_xa.out, ← T_lb.out] <;> rfl)))
                      go_wp2
                      go_meet
                      exact ⟨_, k, rfl, hz, hkb, ⟨hsc.out.symm.trans ST_.eq⟩, SR⟩
                    · have GO_ := ScanEq.mk (scanUp_go (fun x => ltInt x dj[a]!) dj j2 k LE.out (by show ltInt dj[k]! dj[a]! = true; rw [← X_xk.out, ← X_xa.out, ← T_lb.out] <;> rfl))
                      go_wp2
                      go_roundg k1
                      case measure => exact Nat.lt_succ_self _
                      case rel => exact ⟨_, k + 1, rfl, ⟨by have := hz.out; have := LE.out; have := B_j2.out; omega⟩, ⟨by have := hk.out; have := LE.out; have := B_j2.out; omega⟩, ⟨by have := hkb.out; have := LE.out; have := B_j2.out; omega, by have := hkb.out; have := LE.out; have := B_j2.out; omega⟩, ⟨GO_.eq.symm.trans hsc.out⟩, SR⟩
                  · have cnd : decide (z ≤ jz2) = false := decide_eq_false (by omega)
                    have ST_ := ScanEq.mk (scanUp_stop (fun x => ltInt x dj[a]!) dj j2 k (.inl hle))
                    clear hz_ hj_ hkb_ hB_ hB1_ hB2_ hsz_ hle
                    go_wp2
                    refine start_ (n := 14) (S := fun w' => True) (ds := []) #[false, false, false, false, false, false, false, false, false, false, false, false, false, false] (by kernel_rfl) rfl rfl trivial (fun hHeld => ?_)
                    refine pure_ (i := 0) (N := some 99) (v := ?_) (a' := ?_) #[true, false, false, false, false, false, false, false, false, false, false, false, false, false] rfl rfl (by kernel_rfl) (fun _ _ _ h => h) (Or.inl ⟨by rfl, ?_⟩) ?_ ?_
                    rotate_left
                    · intro w'
                      go_simp
                      with_reducible rfl
                    rotate_left
                    · simp only [Act.put, List.setIfInBounds_toArray, List.set_cons_zero, List.set_cons_succ, i64_w, i32_w]
                      rfl
                    refine pure_ (i := 1) (N := some 100) (v := ?_) (a' := ?_) #[true, true, false, false, false, false, false, false, false, false, false, false, false, false] rfl rfl (by kernel_rfl) (fun _ _ _ h => h) (Or.inl ⟨by rfl, ?_⟩) ?_ ?_
                    rotate_left
                    · intro w'
                      go_simp
                      with_reducible rfl
                    rotate_left
                    · simp only [Act.put, List.setIfInBounds_toArray, List.set_cons_zero, List.set_cons_succ, i64_w, i32_w]
                      rfl
                    refine pure_ (i := 2) (N := some 101) (v := ?_) (a' := ?_) #[true, true, true, false, false, false, false, false, false, false, false, false, false, false] rfl rfl (by kernel_rfl) (fun _ _ _ h => h) (Or.inl ⟨by rfl, ?_⟩) ?_ ?_
                    rotate_left
                    · intro w'
                      go_simp
                      with_reducible rfl
                    rotate_left
                    · simp only [Act.put, List.setIfInBounds_toArray, List.set_cons_zero, List.set_cons_succ, i64_w, i32_w]
                      rfl
                    refine pure_ (i := 3) (N := some 102) (v := ?_) (a' := ?_) #[true, true, true, true, false, false, false, false, false, false, false, false, false, false] rfl rfl (by kernel_rfl) (fun _ _ _ h => h) (Or.inl ⟨by rfl, ?_⟩) ?_ ?_
                    rotate_left
                    · intro w'
                      go_simp
                      with_reducible rfl
                    rotate_left
                    · simp only [Act.put, List.setIfInBounds_toArray, List.set_cons_zero, List.set_cons_succ, i64_w, i32_w]
                      rfl
                    refine pure_ (i := 4) (N := some 103) (v := undef) (a' := ?_) #[true, true, true, true, true, false, false, false, false, false, false, false, false, false] rfl rfl (by kernel_rfl) (fun _ _ _ h => h) (Or.inr ⟨by rfl, rfl⟩) ?_ ?_
                    rotate_left
                    · simp only [Act.put, List.setIfInBounds_toArray, List.set_cons_zero, List.set_cons_succ, i64_w, i32_w]
                      rfl
                    refine pure_ (i := 5) (N := some 104) (v := undef) (a' := ?_) #[true, true, true, true, true, true, false, false, false, false, false, false, false, false] rfl rfl (by kernel_rfl) (fun _ _ _ h => h) (Or.inr ⟨by rfl, rfl⟩) ?_ ?_
                    rotate_left
                    · simp only [Act.put, List.setIfInBounds_toArray, List.set_cons_zero, List.set_cons_succ, i64_w, i32_w]
                      rfl
                    refine pure_ (i := 6) (N := some 105) (v := undef) (a' := ?_) #[true, true, true, true, true, true, true, false, false, false, false, false, false, false] rfl rfl (by kernel_rfl) (fun _ _ _ h => h) (Or.inr ⟨by rfl, rfl⟩) ?_ ?_
                    rotate_left
                    · simp only [Act.put, List.setIfInBounds_toArray, List.set_cons_zero, List.set_cons_succ, i64_w, i32_w]
                      rfl
                    refine pure_ (i := 7) (N := some 106) (v := undef) (a' := ?_) #[true, true, true, true, true, true, true, true, false, false, false, false, false, false] rfl rfl (by kernel_rfl) (fun _ _ _ h => h) (Or.inr ⟨by rfl, rfl⟩) ?_ ?_
                    rotate_left
                    · simp only [Act.put, List.setIfInBounds_toArray, List.set_cons_zero, List.set_cons_succ, i64_w, i32_w]
                      rfl
                    refine pure_ (i := 8) (N := some 107) (v := undef) (a' := ?_) #[true, true, true, true, true, true, true, true, true, false, false, false, false, false] rfl rfl (by kernel_rfl) (fun _ _ _ h => h) (Or.inr ⟨by rfl, rfl⟩) ?_ ?_
                    rotate_left
                    · simp only [Act.put, List.setIfInBounds_toArray, List.set_cons_zero, List.set_cons_succ, i64_w, i32_w]
                      rfl
                    refine pure_ (i := 9) (N := some 108) (v := undef) (a' := ?_) #[true, true, true, true, true, true, true, true, true, true, false, false, false, false] rfl rfl (by kernel_rfl) (fun _ _ _ h => h) (Or.inr ⟨by rfl, rfl⟩) ?_ ?_
                    rotate_left
                    · simp only [Act.put, List.setIfInBounds_toArray, List.set_cons_zero, List.set_cons_succ, i64_w, i32_w]
                      rfl
                    refine pure_ (i := 10) (N := some 109) (v := undef) (a' := ?_) #[true, true, true, true, true, true, true, true, true, true, true, false, false, false] rfl rfl (by kernel_rfl) (fun _ _ _ h => h) (Or.inr ⟨by rfl, rfl⟩) ?_ ?_
                    rotate_left
                    · simp only [Act.put, List.setIfInBounds_toArray, List.set_cons_zero, List.set_cons_succ, i64_w, i32_w]
                      rfl
                    refine pure_ (i := 11) (N := some 110) (v := undef) (a' := ?_) #[true, true, true, true, true, true, true, true, true, true, true, true, false, false] rfl rfl (by kernel_rfl) (fun _ _ _ h => h) (Or.inr ⟨by rfl, rfl⟩) ?_ ?_
                    rotate_left
                    · simp only [Act.put, List.setIfInBounds_toArray, List.set_cons_zero, List.set_cons_succ, i64_w, i32_w]
                      rfl
                    refine pure_ (i := 12) (N := some 111) (v := undef) (a' := ?_) #[true, true, true, true, true, true, true, true, true, true, true, true, true, false] rfl rfl (by kernel_rfl) (fun _ _ _ h => h) (Or.inr ⟨by rfl, rfl⟩) ?_ ?_
                    rotate_left
                    · simp only [Act.put, List.setIfInBounds_toArray, List.set_cons_zero, List.set_cons_succ, i64_w, i32_w]
                      rfl
                    refine pure_ (i := 13) (N := some 112) (v := ?_) (a' := ?_) #[true, true, true, true, true, true, true, true, true, true, true, true, true, true] rfl rfl (by kernel_rfl) (fun _ _ _ h => h) (Or.inl ⟨by rfl, ?_⟩) ?_ ?_
                    rotate_left
                    · intro w'
                      go_simp
                      with_reducible rfl
                    rotate_left
                    · simp only [Act.put, List.setIfInBounds_toArray, List.set_cons_zero, List.set_cons_succ, i64_w, i32_w]
                      rfl
                    refine done_ (by kernel_rfl) ?_
                    have SR_ := Aside0.mk SR.out.drew
                    clear SR
                    go_wp2
                    go_meet
                    exact ⟨_, k, rfl, hz, hkb, ⟨hsc.out.symm.trans ST_.eq⟩, SR_⟩
            case rest =>
              obtain ⟨iz3, i3, rfl, Z_iz3, B0_i3, SC_i3, SR⟩ := hcut
              have B_i3 := Aside0.mk (show a + 1 ≤ i3 ∧ i3 ≤ b by have := B0_i3.out; have := B_i2.out; omega)
              go_upto_block 8 with (fail)
              go_cut [11] from 115 to 131 (fun s_ wc => ∃ (z : Int) (k : Nat), s_ = .int .i64 z ∧ Aside0 (z = k) ∧ Aside0 (a ≤ k ∧ k ≤ j2) ∧ Aside0 (scanDown (fun x => !ltInt x dj[a]!) dj i3 j2 = k) ∧ Aside0 (Srt w g tl dj wc))
              case first =>
                go_wp2
                go_loopg [11] (j2 + 1) (fun kq v_ w' => ∃ (z : Int) (k : Nat), v_ = .int .i64 z ∧ Aside0 (z = k) ∧ Aside0 (k < kq) ∧ Aside0 (a ≤ k ∧ k ≤ j2) ∧ Aside0 (scanDown (fun x => !ltInt x dj[a]!) dj i3 k = scanDown (fun x => !ltInt x dj[a]!) dj i3 j2) ∧ Aside0 (Srt w g tl dj w'))
                case atStart => exact ⟨_, j2, rfl, Z_jz2, ⟨by omega⟩, ⟨by have := B_j2.out; omega, Nat.le_refl _⟩, ⟨rfl⟩, SR⟩
                case round =>
                  clear SR
                  obtain ⟨z, k, rfl, hz, hk, hkb, hsc, SR⟩ := hrel
                  cases gk with
                  | zero => exact absurd hk.out (by omega)
                  | succ k1 =>
                    have hz_ := hz.out
                    have hj_ := Z_iz3.out
                    have hkb_ := hkb.out
                    have hB_ := hbd.out
                    have hB1_ := B_j2.out
                    have hB2_ := B_i3.out
                    have hsz_ := hsz.out
                    by_cases hle : i3 ≤ k
                    · have cnd : decide (iz3 ≤ z) = true := decide_eq_true (by omega)
                      have w_ : wrap64 (z - 1) = z - 1 := by unfold wrap64; omega
                      have LE := Aside0.mk hle
                      have P_z := Aside0.mk (⟨by omega, by omega⟩ : z.toNat = k ∧ k < d.size)
                      have n1_z := eq_true (show 0 ≤ z by omega)
                      have n2_z := eq_true (show z < (d.size : Int) by omega)
                      clear hz_ hj_ hkb_ hB_ hB1_ hB2_ hsz_ hle
                      obtain ⟨xk, hxk⟩ : ∃ xk, xk = dj[k]! := ⟨_, rfl⟩
                      have X_xk := Aside0.mk hxk
                      clear hxk
                      have C_xk := Aside0.mk (show wr.drew.cell? ⟨g, z.toNat, none⟩ = some (.int .u64 xk) by rw [P_z.out.1, X_xk.out]; exact SR.out.drew.cell (k) (by rw [HD.out]; exact P_z.out.2))
                      obtain ⟨xa, hxa⟩ : ∃ xa, xa = dj[a]! := ⟨_, rfl⟩
                      have X_xa := Aside0.mk hxa
                      clear hxa
                      have C_xa := Aside0.mk (show wr.drew.cell? ⟨g, az.toNat, none⟩ = some (.int .u64 xa) by rw [P_az.out.1, X_xa.out]; exact SR.out.drew.cell (a) (by rw [HD.out]; exact P_az.out.2))
                      obtain ⟨lb, hlb⟩ : ∃ lb, lb = ltInt xk xa := ⟨_, rfl⟩
                      have LB := Aside0.mk hlb
                      clear hlb
                      go_wp2
                      refine start_ (n := 15) (S := fun w' => w'.cell? ⟨g, z.toNat, none⟩ = some (.int .u64 xk) ∧ w'.cell? ⟨g, az.toNat, none⟩ = some (.int .u64 xa)) (ds := []) #[false, false, false, false, false, false, false, false, false, false, false, false, false, false, false] (by kernel_rfl) rfl rfl ⟨C_xk.out, C_xa.out⟩ (fun hHeld => ?_)
                      refine pure_ (i := 0) (N := some 115) (v := ?_) (a' := ?_) #[true, false, false, false, false, false, false, false, false, false, false, false, false, false, false] rfl rfl (by kernel_rfl) (fun _ _ _ h => h) (Or.inl ⟨by rfl, ?_⟩) ?_ ?_
                      rotate_left
                      · intro w'
                        go_simp
                        with_reducible rfl
                      rotate_left
                      · simp only [Act.put, List.setIfInBounds_toArray, List.set_cons_zero, List.set_cons_succ, i64_w, i32_w]
                        rfl
                      refine pure_ (i := 1) (N := some 116) (v := ?_) (a' := ?_) #[true, true, false, false, false, false, false, false, false, false, false, false, false, false, false] rfl rfl (by kernel_rfl) (fun _ _ _ h => h) (Or.inl ⟨by rfl, ?_⟩) ?_ ?_
                      rotate_left
                      · intro w'
                        go_simp
                        with_reducible rfl
                      rotate_left
                      · simp only [Act.put, List.setIfInBounds_toArray, List.set_cons_zero, List.set_cons_succ, i64_w, i32_w]
                        rfl
                      refine pure_ (i := 2) (N := some 117) (v := ?_) (a' := ?_) #[true, true, true, false, false, false, false, false, false, false, false, false, false, false, false] rfl rfl (by kernel_rfl) (fun _ _ _ h => h) (Or.inl ⟨by rfl, ?_⟩) ?_ ?_
                      rotate_left
                      · intro w'
                        go_simp
                        with_reducible rfl
                      rotate_left
                      · simp only [Act.put, List.setIfInBounds_toArray, List.set_cons_zero, List.set_cons_succ, i64_w, i32_w]
                        rfl
                      refine pure_ (i := 3) (N := some 118) (v := ?_) (a' := ?_) #[true, true, true, true, false, false, false, false, false, false, false, false, false, false, false] rfl rfl (by kernel_rfl) (fun _ _ _ h => h) (Or.inl ⟨by rfl, ?_⟩) ?_ ?_
                      rotate_left
                      · intro w'
                        go_simp
                        with_reducible rfl
                      rotate_left
                      · simp only [Act.put, List.setIfInBounds_toArray, List.set_cons_zero, List.set_cons_succ, i64_w, i32_w]
                        rfl
                      refine pure_ (i := 4) (N := some 119) (v := ?_) (a' := ?_) #[true, true, true, true, true, false, false, false, false, false, false, false, false, false, false] rfl rfl (by kernel_rfl) (fun _ _ _ h => h) (Or.inl ⟨by rfl, ?_⟩) ?_ ?_
                      rotate_left
                      · intro w'
                        go_simp
                        with_reducible rfl
                      rotate_left
                      · simp only [Act.put, List.setIfInBounds_toArray, List.set_cons_zero, List.set_cons_succ, i64_w, i32_w]
                        rfl
                      refine pure_ (i := 5) (N := some 120) (v := ?_) (a' := ?_) #[true, true, true, true, true, true, false, false, false, false, false, false, false, false, false] rfl rfl (by kernel_rfl) (fun _ _ _ h => h) (Or.inl ⟨by rfl, ?_⟩) ?_ ?_
                      rotate_left
                      · intro w'
                        go_simp
                        with_reducible rfl
                      rotate_left
                      · simp only [Act.put, List.setIfInBounds_toArray, List.set_cons_zero, List.set_cons_succ, i64_w, i32_w]
                        rfl
                      refine pure_ (i := 6) (N := some 121) (v := ?_) (a' := ?_) #[true, true, true, true, true, true, true, false, false, false, false, false, false, false, false] rfl rfl (by kernel_rfl) (fun _ _ _ h => h) (Or.inl ⟨by rfl, ?_⟩) ?_ ?_
                      rotate_left
                      · intro w'
                        go_simp
                        with_reducible rfl
                      rotate_left
                      · simp only [Act.put, List.setIfInBounds_toArray, List.set_cons_zero, List.set_cons_succ, i64_w, i32_w]
                        rfl
                      refine pure_ (i := 8) (N := some 123) (v := ?_) (a' := ?_) #[true, true, true, true, true, true, true, false, true, false, false, false, false, false, false] rfl rfl (by kernel_rfl) (fun _ _ _ h => h) (Or.inl ⟨by rfl, ?_⟩) ?_ ?_
                      rotate_left
                      · intro w'
                        go_simp
                        with_reducible rfl
                      rotate_left
                      · simp only [Act.put, List.setIfInBounds_toArray, List.set_cons_zero, List.set_cons_succ, i64_w, i32_w]
                        rfl
                      refine pure_ (i := 9) (N := some 124) (v := ?_) (a' := ?_) #[true, true, true, true, true, true, true, false, true, true, false, false, false, false, false] rfl rfl (by kernel_rfl) (fun _ _ _ h => h) (Or.inl ⟨by rfl, ?_⟩) ?_ ?_
                      rotate_left
                      · intro w'
                        go_simp
                        with_reducible rfl
                      rotate_left
                      · simp only [Act.put, List.setIfInBounds_toArray, List.set_cons_zero, List.set_cons_succ, i64_w, i32_w]
                        rfl
                      refine pure_ (i := 10) (N := some 125) (v := ?_) (a' := ?_) #[true, true, true, true, true, true, true, false, true, true, true, false, false, false, false] rfl rfl (by kernel_rfl) (fun _ _ _ h => h) (Or.inl ⟨by rfl, ?_⟩) ?_ ?_
                      rotate_left
                      · intro w'
                        go_simp
                        with_reducible rfl
                      rotate_left
                      · simp only [Act.put, List.setIfInBounds_toArray, List.set_cons_zero, List.set_cons_succ, i64_w, i32_w]
                        rfl
                      refine take_ (i := 7) (N := some 122) (v := ?_) (a' := ?_) #[true, true, true, true, true, true, true, true, true, true, true, false, false, false, false] rfl rfl (by kernel_rfl) (fun _ _ _ h => h) (Or.inl ⟨by rfl, ?_⟩) hHeld ?_ ?_
                      rotate_left
                      · rintro w' ⟨s0, s1⟩
                        go_simp
                        with_reducible rfl
                      rotate_left
                      · simp only [Act.put, List.setIfInBounds_toArray, List.set_cons_zero, List.set_cons_succ, i64_w, i32_w]
                        rfl
                      refine take_ (i := 11) (N := some 126) (v := ?_) (a' := ?_) #[true, true, true, true, true, true, true, true, true, true, true, true, false, false, false] rfl rfl (by kernel_rfl) (fun _ _ _ h => h) (Or.inl ⟨by rfl, ?_⟩) hHeld ?_ ?_
                      rotate_left
                      · rintro w' ⟨s0, s1⟩
                        go_simp
                        with_reducible rfl
                      rotate_left
                      · simp only [Act.put, List.setIfInBounds_toArray, List.set_cons_zero, List.set_cons_succ, i64_w, i32_w]
                        rfl
                      refine one_ (i := 12) (N := some 127) #[true, true, true, true, true, true, true, true, true, true, true, true, true, false, false] rfl rfl (by kernel_rfl) (by decide) (fun K hK => ?_)
                      refine goes_ Try.func45 (by kernel_rfl) rfl #[.int .u64 xk, .int .u64 xa] (by rfl) rfl rfl (by simp only [List.map_toArray, List.map_cons, List.map_nil]; rfl) ?_
                      with_reducible refine (Less64.as xk xa _ lb ⟨LB.out⟩).mono ?_
                      rintro e w4 ⟨rfl, hbq⟩
                      refine ⟨_, rfl, ?_⟩
                      have mSR_ := Aside0.mk (SR.out.drew.below hbq)
                      clear SR
                      have SR := mSR_
                      clear mSR_
                      refine hK.out _ _ ⟨((hbq.cell (World.block_lt_of_cell? _ _ hHeld.1)).trans hHeld.1), ((hbq.cell (World.block_lt_of_cell? _ _ hHeld.2)).trans hHeld.2)⟩ (fun hHeld => ?_)
                      clear hK K
                      refine norm_ (a' := ?_) ?_ ?_
                      rotate_left
                      · show Act.put _ (some 127) _ = _
                        simp only [Act.put, List.setIfInBounds_toArray, List.set_cons_zero, List.set_cons_succ, i64_w, i32_w]
                        rfl
                      refine pure_ (i := 13) (N := some 128) (v := ?_) (a' := ?_) #[true, true, true, true, true, true, true, true, true, true, true, true, true, true, false] rfl rfl (by kernel_rfl) (fun _ _ _ h => h) (Or.inl ⟨by rfl, ?_⟩) ?_ ?_
                      rotate_left
                      · intro w'
                        go_simp
                        with_reducible rfl
                      rotate_left
                      · simp only [Act.put, List.setIfInBounds_toArray, List.set_cons_zero, List.set_cons_succ, i64_w, i32_w]
                        rfl
                      refine pure_ (i := 14) (N := some 129) (v := ?_) (a' := ?_) #[true, true, true, true, true, true, true, true, true, true, true, true, true, true, true] rfl rfl (by kernel_rfl) (fun _ _ _ h => h) (Or.inl ⟨by rfl, ?_⟩) ?_ ?_
                      rotate_left
                      · intro w'
                        go_simp
                        with_reducible rfl
                      rotate_left
                      · simp only [Act.put, List.setIfInBounds_toArray, List.set_cons_zero, List.set_cons_succ, i64_w, i32_w]
                        rfl
                      refine done_ (by kernel_rfl) ?_
                      have T_lb := LB
                      clear LB hbq C_xk C_xa
                      cases lb
                      · have GO_ := ScanEq.mk (scanDown_go (fun x => !ltInt x dj[a]!) dj i3 k (by have := LE.out; have := B_i3.out; omega) LE.out (by show (!ltInt dj[k]! dj[a]!) = true; rw [← X_xk.out, ← X_xa.out, ← T_lb.out] <;> rfl))
                        go_wp2
                        go_roundg k1
                        case measure => exact Nat.lt_succ_self _
                        case rel => exact ⟨_, k - 1, rfl, ⟨by have := hz.out; have := LE.out; have := B_i3.out; omega⟩, ⟨by have := hk.out; have := LE.out; have := B_i3.out; omega⟩, ⟨by have := hkb.out; have := LE.out; have := B_i3.out; omega, by have := hkb.out; have := LE.out; have := B_i3.out; omega⟩, ⟨GO_.eq.symm.trans hsc.out⟩, SR⟩
                      · have ST_ := ScanEq.mk (scanDown_stop (fun x => !ltInt x dj[a]!) dj i3 k (.inr (by show (!ltInt dj[k]! dj[a]!) = false; rw [← X_xk.out, ← X_xa.out, ← T_lb.out] <;> rfl)))
                        go_wp2
                        go_meet
                        exact ⟨_, k, rfl, hz, hkb, ⟨hsc.out.symm.trans ST_.eq⟩, SR⟩
                    · have cnd : decide (iz3 ≤ z) = false := decide_eq_false (by omega)
                      have ST_ := ScanEq.mk (scanDown_stop (fun x => !ltInt x dj[a]!) dj i3 k (.inl hle))
                      clear hz_ hj_ hkb_ hB_ hB1_ hB2_ hsz_ hle
                      go_wp2
                      refine start_ (n := 15) (S := fun w' => True) (ds := []) #[false, false, false, false, false, false, false, false, false, false, false, false, false, false, false] (by kernel_rfl) rfl rfl trivial (fun hHeld => ?_)
                      refine pure_ (i := 0) (N := some 115) (v := ?_) (a' := ?_) #[true, false, false, false, false, false, false, false, false, false, false, false, false, false, false] rfl rfl (by kernel_rfl) (fun _ _ _ h => h) (Or.inl ⟨by rfl, ?_⟩) ?_ ?_
                      rotate_left
                      · intro w'
                        go_simp
                        with_reducible rfl
                      rotate_left
                      · simp only [Act.put, List.setIfInBounds_toArray, List.set_cons_zero, List.set_cons_succ, i64_w, i32_w]
                        rfl
                      refine pure_ (i := 1) (N := some 116) (v := ?_) (a' := ?_) #[true, true, false, false, false, false, false, false, false, false, false, false, false, false, false] rfl rfl (by kernel_rfl) (fun _ _ _ h => h) (Or.inl ⟨by rfl, ?_⟩) ?_ ?_
                      rotate_left
                      · intro w'
                        go_simp
                        with_reducible rfl
                      rotate_left
                      · simp only [Act.put, List.setIfInBounds_toArray, List.set_cons_zero, List.set_cons_succ, i64_w, i32_w]
                        rfl
                      refine pure_ (i := 2) (N := some 117) (v := ?_) (a' := ?_) #[true, true, true, false, false, false, false, false, false, false, false, false, false, false, false] rfl rfl (by kernel_rfl) (fun _ _ _ h => h) (Or.inl ⟨by rfl, ?_⟩) ?_ ?_
                      rotate_left
                      · intro w'
                        go_simp
                        with_reducible rfl
                      rotate_left
                      · simp only [Act.put, List.setIfInBounds_toArray, List.set_cons_zero, List.set_cons_succ, i64_w, i32_w]
                        rfl
                      refine pure_ (i := 3) (N := some 118) (v := ?_) (a' := ?_) #[true, true, true, true, false, false, false, false, false, false, false, false, false, false, false] rfl rfl (by kernel_rfl) (fun _ _ _ h => h) (Or.inl ⟨by rfl, ?_⟩) ?_ ?_
                      rotate_left
                      · intro w'
                        go_simp
                        with_reducible rfl
                      rotate_left
                      · simp only [Act.put, List.setIfInBounds_toArray, List.set_cons_zero, List.set_cons_succ, i64_w, i32_w]
                        rfl
                      refine pure_ (i := 4) (N := some 119) (v := undef) (a' := ?_) #[true, true, true, true, true, false, false, false, false, false, false, false, false, false, false] rfl rfl (by kernel_rfl) (fun _ _ _ h => h) (Or.inr ⟨by rfl, rfl⟩) ?_ ?_
                      rotate_left
                      · simp only [Act.put, List.setIfInBounds_toArray, List.set_cons_zero, List.set_cons_succ, i64_w, i32_w]
                        rfl
                      refine pure_ (i := 5) (N := some 120) (v := undef) (a' := ?_) #[true, true, true, true, true, true, false, false, false, false, false, false, false, false, false] rfl rfl (by kernel_rfl) (fun _ _ _ h => h) (Or.inr ⟨by rfl, rfl⟩) ?_ ?_
                      rotate_left
                      · simp only [Act.put, List.setIfInBounds_toArray, List.set_cons_zero, List.set_cons_succ, i64_w, i32_w]
                        rfl
                      refine pure_ (i := 6) (N := some 121) (v := undef) (a' := ?_) #[true, true, true, true, true, true, true, false, false, false, false, false, false, false, false] rfl rfl (by kernel_rfl) (fun _ _ _ h => h) (Or.inr ⟨by rfl, rfl⟩) ?_ ?_
                      rotate_left
                      · simp only [Act.put, List.setIfInBounds_toArray, List.set_cons_zero, List.set_cons_succ, i64_w, i32_w]
                        rfl
                      refine pure_ (i := 7) (N := some 122) (v := undef) (a' := ?_) #[true, true, true, true, true, true, true, true, false, false, false, false, false, false, false] rfl rfl (by kernel_rfl) (fun _ _ _ h => h) (Or.inr ⟨by rfl, rfl⟩) ?_ ?_
                      rotate_left
                      · simp only [Act.put, List.setIfInBounds_toArray, List.set_cons_zero, List.set_cons_succ, i64_w, i32_w]
                        rfl
                      refine pure_ (i := 8) (N := some 123) (v := undef) (a' := ?_) #[true, true, true, true, true, true, true, true, true, false, false, false, false, false, false] rfl rfl (by kernel_rfl) (fun _ _ _ h => h) (Or.inr ⟨by rfl, rfl⟩) ?_ ?_
                      rotate_left
                      · simp only [Act.put, List.setIfInBounds_toArray, List.set_cons_zero, List.set_cons_succ, i64_w, i32_w]
                        rfl
                      refine pure_ (i := 9) (N := some 124) (v := undef) (a' := ?_) #[true, true, true, true, true, true, true, true, true, true, false, false, false, false, false] rfl rfl (by kernel_rfl) (fun _ _ _ h => h) (Or.inr ⟨by rfl, rfl⟩) ?_ ?_
                      rotate_left
                      · simp only [Act.put, List.setIfInBounds_toArray, List.set_cons_zero, List.set_cons_succ, i64_w, i32_w]
                        rfl
                      refine pure_ (i := 10) (N := some 125) (v := undef) (a' := ?_) #[true, true, true, true, true, true, true, true, true, true, true, false, false, false, false] rfl rfl (by kernel_rfl) (fun _ _ _ h => h) (Or.inr ⟨by rfl, rfl⟩) ?_ ?_
                      rotate_left
                      · simp only [Act.put, List.setIfInBounds_toArray, List.set_cons_zero, List.set_cons_succ, i64_w, i32_w]
                        rfl
                      refine pure_ (i := 11) (N := some 126) (v := undef) (a' := ?_) #[true, true, true, true, true, true, true, true, true, true, true, true, false, false, false] rfl rfl (by kernel_rfl) (fun _ _ _ h => h) (Or.inr ⟨by rfl, rfl⟩) ?_ ?_
                      rotate_left
                      · simp only [Act.put, List.setIfInBounds_toArray, List.set_cons_zero, List.set_cons_succ, i64_w, i32_w]
                        rfl
                      refine pure_ (i := 12) (N := some 127) (v := undef) (a' := ?_) #[true, true, true, true, true, true, true, true, true, true, true, true, true, false, false] rfl rfl (by kernel_rfl) (fun _ _ _ h => h) (Or.inr ⟨by rfl, rfl⟩) ?_ ?_
                      rotate_left
                      · simp only [Act.put, List.setIfInBounds_toArray, List.set_cons_zero, List.set_cons_succ, i64_w, i32_w]
                        rfl
                      refine pure_ (i := 13) (N := some 128) (v := undef) (a' := ?_) #[true, true, true, true, true, true, true, true, true, true, true, true, true, true, false] rfl rfl (by kernel_rfl) (fun _ _ _ h => h) (Or.inr ⟨by rfl, rfl⟩) ?_ ?_
                      rotate_left
                      · simp only [Act.put, List.setIfInBounds_toArray, List.set_cons_zero, List.set_cons_succ, i64_w, i32_w]
                        rfl
                      refine pure_ (i := 14) (N := some 129) (v := ?_) (a' := ?_) #[true, true, true, true, true, true, true, true, true, true, true, true, true, true, true] rfl rfl (by kernel_rfl) (fun _ _ _ h => h) (Or.inl ⟨by rfl, ?_⟩) ?_ ?_
                      rotate_left
                      · intro w'
                        go_simp
                        with_reducible rfl
                      rotate_left
                      · simp only [Act.put, List.setIfInBounds_toArray, List.set_cons_zero, List.set_cons_succ, i64_w, i32_w]
                        rfl
                      refine done_ (by kernel_rfl) ?_
                      have SR_ := Aside0.mk SR.out.drew
                      clear SR
                      go_wp2
                      go_meet
                      exact ⟨_, k, rfl, hz, hkb, ⟨hsc.out.symm.trans ST_.eq⟩, SR_⟩
              case rest =>
                obtain ⟨jz3, j3, rfl, Z_jz3, B0_j3, SC_j3, SR⟩ := hcut
                have B_j3 := Aside0.mk (show a ≤ j3 ∧ j3 < b by have := B0_j3.out; have := B_j2.out; omega)
                have h1_ := Z_iz3.out
                have h2_ := Z_jz3.out
                have h3_ := B_j3.out
                have h4_ := hbd.out
                have h5_ := B_i3.out
                have h6_ := hsz.out
                have h7_ := B0_i3.out
                have h8_ := B0_j3.out
                have h9_ := B_i2.out
                have P_jz3 := Aside0.mk (⟨by omega, by omega⟩ : jz3.toNat = j3 ∧ j3 < d.size)
                have n1_jz3 := eq_true (show 0 ≤ jz3 by omega)
                have n2_jz3 := eq_true (show jz3 < (d.size : Int) by omega)
                by_cases hgt : j3 < i3
                · have cnd : decide (iz3 > jz3) = true := decide_eq_true (by omega)
                  have PL := ScanEqP.mk (hpl.out.symm.trans (partLoop_stop a i2 j2 i3 j3 dj SC_i3.out SC_j3.out hgt))
                  clear h1_ h2_ h3_ h4_ h5_ h6_ h7_ h8_ h9_ hgt
                  obtain ⟨xj, hxj⟩ : ∃ xj, xj = dj[j3]! := ⟨_, rfl⟩
                  have X_xj := Aside0.mk hxj
                  clear hxj
                  have C_xj := Aside0.mk (show wc.drew.cell? ⟨g, jz3.toNat, none⟩ = some (.int .u64 xj) by rw [P_jz3.out.1, X_xj.out]; exact SR.out.drew.cell (j3) (by rw [HD.out]; exact P_jz3.out.2))
                  obtain ⟨xa, hxa⟩ : ∃ xa, xa = dj[a]! := ⟨_, rfl⟩
                  have X_xa := Aside0.mk hxa
                  clear hxa
                  have C_xa := Aside0.mk (show wc.drew.cell? ⟨g, az.toNat, none⟩ = some (.int .u64 xa) by rw [P_az.out.1, X_xa.out]; exact SR.out.drew.cell (a) (by rw [HD.out]; exact P_az.out.2))
                  have fz1_ := SR.out.frozen jz3.toNat
                  have fz2_ := SR.out.frozen az.toNat
                  have s2_ := SR.out.set jz3.toNat (by rw [P_jz3.out.1, HD.out]; exact P_jz3.out.2) xa
                  have f2_ := s2_.frozen az.toNat
                  have c2_ := s2_.cell az.toNat (by rw [Array.size_setIfInBounds, HD.out, P_az.out.1]; exact P_az.out.2)
                  clear s2_
                  go_wp2
                  refine start_ (n := 16) (S := fun w' => w'.cell? ⟨g, jz3.toNat, none⟩ = some (.int .u64 xj) ∧ w'.cell? ⟨g, az.toNat, none⟩ = some (.int .u64 xa)) (ds := [13, 15]) #[false, false, false, false, false, false, false, false, false, false, false, false, false, false, false, false] (by kernel_rfl) rfl rfl ⟨C_xj.out, C_xa.out⟩ (fun hHeld => ?_)
                  refine pure_ (i := 0) (N := some 153) (v := ?_) (a' := ?_) #[true, false, false, false, false, false, false, false, false, false, false, false, false, false, false, false] rfl rfl (by kernel_rfl) (fun _ _ _ h => h) (Or.inl ⟨by rfl, ?_⟩) ?_ ?_
                  rotate_left
                  · intro w'
                    go_simp
                    with_reducible rfl
                  rotate_left
                  · simp only [Act.put, List.setIfInBounds_toArray, List.set_cons_zero, List.set_cons_succ, i64_w, i32_w]
                    rfl
                  refine pure_ (i := 1) (N := some 154) (v := ?_) (a' := ?_) #[true, true, false, false, false, false, false, false, false, false, false, false, false, false, false, false] rfl rfl (by kernel_rfl) (fun _ _ _ h => h) (Or.inl ⟨by rfl, ?_⟩) ?_ ?_
                  rotate_left
                  · intro w'
                    go_simp
                    with_reducible rfl
                  rotate_left
                  · simp only [Act.put, List.setIfInBounds_toArray, List.set_cons_zero, List.set_cons_succ, i64_w, i32_w]
                    rfl
                  refine pure_ (i := 2) (N := some 155) (v := ?_) (a' := ?_) #[true, true, true, false, false, false, false, false, false, false, false, false, false, false, false, false] rfl rfl (by kernel_rfl) (fun _ _ _ h => h) (Or.inl ⟨by rfl, ?_⟩) ?_ ?_
                  rotate_left
                  · intro w'
                    go_simp
                    with_reducible rfl
                  rotate_left
                  · simp only [Act.put, List.setIfInBounds_toArray, List.set_cons_zero, List.set_cons_succ, i64_w, i32_w]
                    rfl
                  refine pure_ (i := 3) (N := some 156) (v := ?_) (a' := ?_) #[true, true, true, true, false, false, false, false, false, false, false, false, false, false, false, false] rfl rfl (by kernel_rfl) (fun _ _ _ h => h) (Or.inl ⟨by rfl, ?_⟩) ?_ ?_
                  rotate_left
                  · intro w'
                    go_simp
                    with_reducible rfl
                  rotate_left
                  · simp only [Act.put, List.setIfInBounds_toArray, List.set_cons_zero, List.set_cons_succ, i64_w, i32_w]
                    rfl
                  refine pure_ (i := 4) (N := some 157) (v := ?_) (a' := ?_) #[true, true, true, true, true, false, false, false, false, false, false, false, false, false, false, false] rfl rfl (by kernel_rfl) (fun _ _ _ h => h) (Or.inl ⟨by rfl, ?_⟩) ?_ ?_
                  rotate_left
                  · intro w'
                    go_simp
                    with_reducible rfl
                  rotate_left
                  · simp only [Act.put, List.setIfInBounds_toArray, List.set_cons_zero, List.set_cons_succ, i64_w, i32_w]
                    rfl
                  refine pure_ (i := 5) (N := some 158) (v := ?_) (a' := ?_) #[true, true, true, true, true, true, false, false, false, false, false, false, false, false, false, false] rfl rfl (by kernel_rfl) (fun _ _ _ h => h) (Or.inl ⟨by rfl, ?_⟩) ?_ ?_
                  rotate_left
                  · intro w'
                    go_simp
                    with_reducible rfl
                  rotate_left
                  · simp only [Act.put, List.setIfInBounds_toArray, List.set_cons_zero, List.set_cons_succ, i64_w, i32_w]
                    rfl
                  refine pure_ (i := 6) (N := some 159) (v := ?_) (a' := ?_) #[true, true, true, true, true, true, true, false, false, false, false, false, false, false, false, false] rfl rfl (by kernel_rfl) (fun _ _ _ h => h) (Or.inl ⟨by rfl, ?_⟩) ?_ ?_
                  rotate_left
                  · intro w'
                    go_simp
                    with_reducible rfl
                  rotate_left
                  · simp only [Act.put, List.setIfInBounds_toArray, List.set_cons_zero, List.set_cons_succ, i64_w, i32_w]
                    rfl
                  refine pure_ (i := 8) (N := some 161) (v := ?_) (a' := ?_) #[true, true, true, true, true, true, true, false, true, false, false, false, false, false, false, false] rfl rfl (by kernel_rfl) (fun _ _ _ h => h) (Or.inl ⟨by rfl, ?_⟩) ?_ ?_
                  rotate_left
                  · intro w'
                    go_simp
                    with_reducible rfl
                  rotate_left
                  · simp only [Act.put, List.setIfInBounds_toArray, List.set_cons_zero, List.set_cons_succ, i64_w, i32_w]
                    rfl
                  refine pure_ (i := 9) (N := some 162) (v := ?_) (a' := ?_) #[true, true, true, true, true, true, true, false, true, true, false, false, false, false, false, false] rfl rfl (by kernel_rfl) (fun _ _ _ h => h) (Or.inl ⟨by rfl, ?_⟩) ?_ ?_
                  rotate_left
                  · intro w'
                    go_simp
                    with_reducible rfl
                  rotate_left
                  · simp only [Act.put, List.setIfInBounds_toArray, List.set_cons_zero, List.set_cons_succ, i64_w, i32_w]
                    rfl
                  refine pure_ (i := 10) (N := some 163) (v := ?_) (a' := ?_) #[true, true, true, true, true, true, true, false, true, true, true, false, false, false, false, false] rfl rfl (by kernel_rfl) (fun _ _ _ h => h) (Or.inl ⟨by rfl, ?_⟩) ?_ ?_
                  rotate_left
                  · intro w'
                    go_simp
                    with_reducible rfl
                  rotate_left
                  · simp only [Act.put, List.setIfInBounds_toArray, List.set_cons_zero, List.set_cons_succ, i64_w, i32_w]
                    rfl
                  refine take_ (i := 7) (N := some 160) (v := ?_) (a' := ?_) #[true, true, true, true, true, true, true, true, true, true, true, false, false, false, false, false] rfl rfl (by kernel_rfl) (fun _ _ _ h => h) (Or.inl ⟨by rfl, ?_⟩) hHeld ?_ ?_
                  rotate_left
                  · rintro w' ⟨s0, s1⟩
                    go_simp
                    with_reducible rfl
                  rotate_left
                  · simp only [Act.put, List.setIfInBounds_toArray, List.set_cons_zero, List.set_cons_succ, i64_w, i32_w]
                    rfl
                  refine take_ (i := 11) (N := some 164) (v := ?_) (a' := ?_) #[true, true, true, true, true, true, true, true, true, true, true, true, false, false, false, false] rfl rfl (by kernel_rfl) (fun _ _ _ h => h) (Or.inl ⟨by rfl, ?_⟩) hHeld ?_ ?_
                  rotate_left
                  · rintro w' ⟨s0, s1⟩
                    go_simp
                    with_reducible rfl
                  rotate_left
                  · simp only [Act.put, List.setIfInBounds_toArray, List.set_cons_zero, List.set_cons_succ, i64_w, i32_w]
                    rfl
                  refine pure_ (i := 12) (N := some 165) (v := ?_) (a' := ?_) #[true, true, true, true, true, true, true, true, true, true, true, true, true, false, false, false] rfl rfl (by kernel_rfl) (fun _ _ _ h => h) (Or.inl ⟨by rfl, ?_⟩) ?_ ?_
                  rotate_left
                  · intro w'
                    go_simp
                    with_reducible rfl
                  rotate_left
                  · simp only [Act.put, List.setIfInBounds_toArray, List.set_cons_zero, List.set_cons_succ, i64_w, i32_w]
                    rfl
                  refine last_ (i := 13) (N := none) #[true, true, true, true, true, true, true, true, true, true, true, true, true, true, false, false] rfl rfl (by kernel_rfl) (by decide) (fun K hK => ?_)
                  refine skip_ (w1 := ?_) (by rfl) rfl ?_ ?_
                  rotate_left
                  · go_simp
                    rfl
                  refine hK.out _ _ ?_
                  clear hK K
                  refine pure_ (i := 14) (N := some 166) (v := ?_) (a' := ?_) #[true, true, true, true, true, true, true, true, true, true, true, true, true, true, true, false] rfl rfl (by kernel_rfl) (fun _ _ _ h => h) (Or.inl ⟨by rfl, ?_⟩) ?_ ?_
                  rotate_left
                  · intro w'
                    go_simp
                    with_reducible rfl
                  rotate_left
                  · simp only [Act.put, List.setIfInBounds_toArray, List.set_cons_zero, List.set_cons_succ, i64_w, i32_w]
                    rfl
                  refine last_ (i := 15) (N := none) #[true, true, true, true, true, true, true, true, true, true, true, true, true, true, true, true] rfl rfl (by kernel_rfl) (by decide) (fun K hK => ?_)
                  refine skip_ (w1 := ?_) (by rfl) rfl ?_ ?_
                  rotate_left
                  · go_simp
                    rfl
                  refine hK.out _ _ ?_
                  clear hK K
                  refine done_ (by kernel_rfl) ?_
                  have SW_ := Aside0.mk (show Srt w g tl (swp dj (j3) (a)) ((wc.setCell ⟨g, jz3.toNat, none⟩ (.int .u64 xa)).setCell ⟨g, az.toNat, none⟩ (.int .u64 xj)).drew by rw [P_jz3.out.1, P_az.out.1, X_xj.out, X_xa.out]; exact (SR.out.swp (j3) (a) (by rw [HD.out]; exact P_jz3.out.2) (by rw [HD.out]; exact P_az.out.2)).drew)
                  clear SR fz1_ fz2_ f2_ c2_ C_xj C_xa
                  have SR := SW_
                  clear SW_
                  go_wp2
                  go_ret2
                  exact ⟨by rw [PE2.eq, PL.eq]; show _ = Ending.returned (.tuple #[.int .i64 (j3 : Int), .bool false]); rw [Z_jz3.out]; rfl, by rw [PE2.eq, PL.eq]; exact (swp_size _ _ _).trans HD.out, by rw [PE2.eq, PL.eq]; exact SR.out⟩
                · have cnd : decide (iz3 > jz3) = false := decide_eq_false (by omega)
                  have PL := ScanEqP.mk ((partLoop_go a i2 j2 i3 j3 dj SC_i3.out SC_j3.out hgt (by omega) (by omega) (by omega)).symm.trans hpl.out)
                  have P_iz3 := Aside0.mk (⟨by omega, by omega⟩ : iz3.toNat = i3 ∧ i3 < d.size)
                  have n1_iz3 := eq_true (show 0 ≤ iz3 by omega)
                  have n2_iz3 := eq_true (show iz3 < (d.size : Int) by omega)
                  have wi2_ : wrap64 (iz3 + 1) = iz3 + 1 := by unfold wrap64; omega
                  have wj2_ : wrap64 (jz3 - 1) = jz3 - 1 := by unfold wrap64; omega
                  have B_t := Aside0.mk (show a + 1 ≤ i3 + 1 ∧ i3 + 1 ≤ b ∧ a ≤ j3 - 1 ∧ j3 - 1 < b ∧ 1 ≤ j3 ∧ i2 ≤ i3 by omega)
                  clear h1_ h2_ h3_ h4_ h5_ h6_ h7_ h8_ h9_ hgt
                  obtain ⟨xi, hxi⟩ : ∃ xi, xi = dj[i3]! := ⟨_, rfl⟩
                  have X_xi := Aside0.mk hxi
                  clear hxi
                  have C_xi := Aside0.mk (show wc.drew.cell? ⟨g, iz3.toNat, none⟩ = some (.int .u64 xi) by rw [P_iz3.out.1, X_xi.out]; exact SR.out.drew.cell (i3) (by rw [HD.out]; exact P_iz3.out.2))
                  obtain ⟨xj, hxj⟩ : ∃ xj, xj = dj[j3]! := ⟨_, rfl⟩
                  have X_xj := Aside0.mk hxj
                  clear hxj
                  have C_xj := Aside0.mk (show wc.drew.cell? ⟨g, jz3.toNat, none⟩ = some (.int .u64 xj) by rw [P_jz3.out.1, X_xj.out]; exact SR.out.drew.cell (j3) (by rw [HD.out]; exact P_jz3.out.2))
                  have fz1_ := SR.out.frozen iz3.toNat
                  have fz2_ := SR.out.frozen jz3.toNat
                  have s2_ := SR.out.set iz3.toNat (by rw [P_iz3.out.1, HD.out]; exact P_iz3.out.2) xj
                  have f2_ := s2_.frozen jz3.toNat
                  have c2_ := s2_.cell jz3.toNat (by rw [Array.size_setIfInBounds, HD.out, P_jz3.out.1]; exact P_jz3.out.2)
                  clear s2_
                  go_wp2
                  refine start_ (n := 16) (S := fun w' => w'.cell? ⟨g, iz3.toNat, none⟩ = some (.int .u64 xi) ∧ w'.cell? ⟨g, jz3.toNat, none⟩ = some (.int .u64 xj)) (ds := [13, 15]) #[false, false, false, false, false, false, false, false, false, false, false, false, false, false, false, false] (by kernel_rfl) rfl rfl ⟨C_xi.out, C_xj.out⟩ (fun hHeld => ?_)
                  refine pure_ (i := 0) (N := some 135) (v := ?_) (a' := ?_) #[true, false, false, false, false, false, false, false, false, false, false, false, false, false, false, false] rfl rfl (by kernel_rfl) (fun _ _ _ h => h) (Or.inl ⟨by rfl, ?_⟩) ?_ ?_
                  rotate_left
                  · intro w'
                    go_simp
                    with_reducible rfl
                  rotate_left
                  · simp only [Act.put, List.setIfInBounds_toArray, List.set_cons_zero, List.set_cons_succ, i64_w, i32_w]
                    rfl
                  refine pure_ (i := 1) (N := some 136) (v := ?_) (a' := ?_) #[true, true, false, false, false, false, false, false, false, false, false, false, false, false, false, false] rfl rfl (by kernel_rfl) (fun _ _ _ h => h) (Or.inl ⟨by rfl, ?_⟩) ?_ ?_
                  rotate_left
                  · intro w'
                    go_simp
                    with_reducible rfl
                  rotate_left
                  · simp only [Act.put, List.setIfInBounds_toArray, List.set_cons_zero, List.set_cons_succ, i64_w, i32_w]
                    rfl
                  refine pure_ (i := 2) (N := some 137) (v := ?_) (a' := ?_) #[true, true, true, false, false, false, false, false, false, false, false, false, false, false, false, false] rfl rfl (by kernel_rfl) (fun _ _ _ h => h) (Or.inl ⟨by rfl, ?_⟩) ?_ ?_
                  rotate_left
                  · intro w'
                    go_simp
                    with_reducible rfl
                  rotate_left
                  · simp only [Act.put, List.setIfInBounds_toArray, List.set_cons_zero, List.set_cons_succ, i64_w, i32_w]
                    rfl
                  refine pure_ (i := 3) (N := some 138) (v := ?_) (a' := ?_) #[true, true, true, true, false, false, false, false, false, false, false, false, false, false, false, false] rfl rfl (by kernel_rfl) (fun _ _ _ h => h) (Or.inl ⟨by rfl, ?_⟩) ?_ ?_
                  rotate_left
                  · intro w'
                    go_simp
                    with_reducible rfl
                  rotate_left
                  · simp only [Act.put, List.setIfInBounds_toArray, List.set_cons_zero, List.set_cons_succ, i64_w, i32_w]
                    rfl
                  refine pure_ (i := 4) (N := some 139) (v := ?_) (a' := ?_) #[true, true, true, true, true, false, false, false, false, false, false, false, false, false, false, false] rfl rfl (by kernel_rfl) (fun _ _ _ h => h) (Or.inl ⟨by rfl, ?_⟩) ?_ ?_
                  rotate_left
                  · intro w'
                    go_simp
                    with_reducible rfl
                  rotate_left
                  · simp only [Act.put, List.setIfInBounds_toArray, List.set_cons_zero, List.set_cons_succ, i64_w, i32_w]
                    rfl
                  refine pure_ (i := 5) (N := some 140) (v := ?_) (a' := ?_) #[true, true, true, true, true, true, false, false, false, false, false, false, false, false, false, false] rfl rfl (by kernel_rfl) (fun _ _ _ h => h) (Or.inl ⟨by rfl, ?_⟩) ?_ ?_
                  rotate_left
                  · intro w'
                    go_simp
                    with_reducible rfl
                  rotate_left
                  · simp only [Act.put, List.setIfInBounds_toArray, List.set_cons_zero, List.set_cons_succ, i64_w, i32_w]
                    rfl
                  refine pure_ (i := 6) (N := some 141) (v := ?_) (a' := ?_) #[true, true, true, true, true, true, true, false, false, false, false, false, false, false, false, false] rfl rfl (by kernel_rfl) (fun _ _ _ h => h) (Or.inl ⟨by rfl, ?_⟩) ?_ ?_
                  rotate_left
                  · intro w'
                    go_simp
                    with_reducible rfl
                  rotate_left
                  · simp only [Act.put, List.setIfInBounds_toArray, List.set_cons_zero, List.set_cons_succ, i64_w, i32_w]
                    rfl
                  refine pure_ (i := 8) (N := some 143) (v := ?_) (a' := ?_) #[true, true, true, true, true, true, true, false, true, false, false, false, false, false, false, false] rfl rfl (by kernel_rfl) (fun _ _ _ h => h) (Or.inl ⟨by rfl, ?_⟩) ?_ ?_
                  rotate_left
                  · intro w'
                    go_simp
                    with_reducible rfl
                  rotate_left
                  · simp only [Act.put, List.setIfInBounds_toArray, List.set_cons_zero, List.set_cons_succ, i64_w, i32_w]
                    rfl
                  refine pure_ (i := 9) (N := some 144) (v := ?_) (a' := ?_) #[true, true, true, true, true, true, true, false, true, true, false, false, false, false, false, false] rfl rfl (by kernel_rfl) (fun _ _ _ h => h) (Or.inl ⟨by rfl, ?_⟩) ?_ ?_
                  rotate_left
                  · intro w'
                    go_simp
                    with_reducible rfl
                  rotate_left
                  · simp only [Act.put, List.setIfInBounds_toArray, List.set_cons_zero, List.set_cons_succ, i64_w, i32_w]
                    rfl
                  refine pure_ (i := 10) (N := some 145) (v := ?_) (a' := ?_) #[true, true, true, true, true, true, true, false, true, true, true, false, false, false, false, false] rfl rfl (by kernel_rfl) (fun _ _ _ h => h) (Or.inl ⟨by rfl, ?_⟩) ?_ ?_
                  rotate_left
                  · intro w'
                    go_simp
                    with_reducible rfl
                  rotate_left
                  · simp only [Act.put, List.setIfInBounds_toArray, List.set_cons_zero, List.set_cons_succ, i64_w, i32_w]
                    rfl
                  refine take_ (i := 7) (N := some 142) (v := ?_) (a' := ?_) #[true, true, true, true, true, true, true, true, true, true, true, false, false, false, false, false] rfl rfl (by kernel_rfl) (fun _ _ _ h => h) (Or.inl ⟨by rfl, ?_⟩) hHeld ?_ ?_
                  rotate_left
                  · rintro w' ⟨s0, s1⟩
                    go_simp
                    with_reducible rfl
                  rotate_left
                  · simp only [Act.put, List.setIfInBounds_toArray, List.set_cons_zero, List.set_cons_succ, i64_w, i32_w]
                    rfl
                  refine take_ (i := 11) (N := some 146) (v := ?_) (a' := ?_) #[true, true, true, true, true, true, true, true, true, true, true, true, false, false, false, false] rfl rfl (by kernel_rfl) (fun _ _ _ h => h) (Or.inl ⟨by rfl, ?_⟩) hHeld ?_ ?_
                  rotate_left
                  · rintro w' ⟨s0, s1⟩
                    go_simp
                    with_reducible rfl
                  rotate_left
                  · simp only [Act.put, List.setIfInBounds_toArray, List.set_cons_zero, List.set_cons_succ, i64_w, i32_w]
                    rfl
                  refine pure_ (i := 12) (N := some 147) (v := ?_) (a' := ?_) #[true, true, true, true, true, true, true, true, true, true, true, true, true, false, false, false] rfl rfl (by kernel_rfl) (fun _ _ _ h => h) (Or.inl ⟨by rfl, ?_⟩) ?_ ?_
                  rotate_left
                  · intro w'
                    go_simp
                    with_reducible rfl
                  rotate_left
                  · simp only [Act.put, List.setIfInBounds_toArray, List.set_cons_zero, List.set_cons_succ, i64_w, i32_w]
                    rfl
                  refine last_ (i := 13) (N := none) #[true, true, true, true, true, true, true, true, true, true, true, true, true, true, false, false] rfl rfl (by kernel_rfl) (by decide) (fun K hK => ?_)
                  refine skip_ (w1 := ?_) (by rfl) rfl ?_ ?_
                  rotate_left
                  · go_simp
                    rfl
                  refine hK.out _ _ ?_
                  clear hK K
                  refine pure_ (i := 14) (N := some 148) (v := ?_) (a' := ?_) #[true, true, true, true, true, true, true, true, true, true, true, true, true, true, true, false] rfl rfl (by kernel_rfl) (fun _ _ _ h => h) (Or.inl ⟨by rfl, ?_⟩) ?_ ?_
                  rotate_left
                  · intro w'
                    go_simp
                    with_reducible rfl
                  rotate_left
                  · simp only [Act.put, List.setIfInBounds_toArray, List.set_cons_zero, List.set_cons_succ, i64_w, i32_w]
                    rfl
                  refine last_ (i := 15) (N := none) #[true, true, true, true, true, true, true, true, true, true, true, true, true, true, true, true] rfl rfl (by kernel_rfl) (by decide) (fun K hK => ?_)
                  refine skip_ (w1 := ?_) (by rfl) rfl ?_ ?_
                  rotate_left
                  · go_simp
                    rfl
                  refine hK.out _ _ ?_
                  clear hK K
                  refine done_ (by kernel_rfl) ?_
                  have SW_ := Aside0.mk (show Srt w g tl (swp dj (i3) (j3)) ((wc.setCell ⟨g, iz3.toNat, none⟩ (.int .u64 xj)).setCell ⟨g, jz3.toNat, none⟩ (.int .u64 xi)).drew by rw [P_iz3.out.1, P_jz3.out.1, X_xi.out, X_xj.out]; exact (SR.out.swp (i3) (j3) (by rw [HD.out]; exact P_iz3.out.2) (by rw [HD.out]; exact P_jz3.out.2)).drew)
                  clear SR fz1_ fz2_ f2_ c2_ C_xi C_xj
                  have SR := SW_
                  clear SW_
                  go_wp2
                  go_roundg kO
                  case measure => exact Nat.lt_succ_self _
                  case rel => exact ⟨_, _, i3 + 1, j3 - 1, swp dj i3 j3, rfl, rfl, ⟨by have := Z_iz3.out; omega⟩, ⟨by have := Z_jz3.out; have := B_t.out; omega⟩, ⟨by have := B_t.out; omega⟩, ⟨by have := B_t.out; omega⟩, ⟨by have := hkO.out; have := B_t.out; omega⟩, ⟨PL.eq⟩, ⟨(swp_size _ _ _).trans HD.out⟩, SR⟩
end Go.Proofs.Ytdhiljimmijghaa.FAll
