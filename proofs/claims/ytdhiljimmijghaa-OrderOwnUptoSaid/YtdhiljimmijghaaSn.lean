/-
  slices.partialInsertionSortOrdered at []uint64: the library text computes partialInsertionSort.
-/
import Derived.Test.YtdhiljimmijghaaSr
namespace Go.Proofs.Ytdhiljimmijghaa.FAll
open Go.RowKit Go.Sort Go.Proofs.YtdhiljimmijghaaW.PrintWords Go.Proofs.YtdhiljimmijghaaW.PrintLast Go.Proofs.YtdhiljimmijghaaW.PrintMore
set_option linter.unusedVariables false
set_option linter.unusedSimpArgs false
theorem ss_go (b i : Nat) (d : Array Int) (h : i < b) (hl : ltInt d[i]! d[i - 1]! = false) : scanSorted ltInt d b i = scanSorted ltInt d b (i + 1) := by rw [scanSorted, if_pos (by rw [hl]; simp only [Bool.not_false, Bool.and_true, decide_eq_true_eq]; exact h)]
theorem ss_stop (b i : Nat) (d : Array Int) (h : ¬ i < b ∨ ltInt d[i]! d[i - 1]! = true) : scanSorted ltInt d b i = i := by
  rw [scanSorted, if_neg]
  rcases h with h | h
  · simp only [Bool.and_eq_true, decide_eq_true_eq, not_and]; intro h2; exact absurd h2 h
  · rw [h]; simp
theorem sd_go (j : Nat) (d : Array Int) (hj : 1 ≤ j) (hl : ltInt d[j]! d[j - 1]! = true) : shiftDown ltInt j d = shiftDown ltInt (j - 1) (swp d j (j - 1)) := by
  obtain ⟨k, rfl⟩ : ∃ k, j = k + 1 := ⟨j - 1, by omega⟩
  rw [Nat.add_sub_cancel] at hl ⊢
  rw [shiftDown, if_neg (by rw [hl]; decide)]
theorem sd_stop (j : Nat) (d : Array Int) (h : ¬ 1 ≤ j ∨ ltInt d[j]! d[j - 1]! = false) : shiftDown ltInt j d = d := by
  cases j with
  | zero => rfl
  | succ k =>
    rw [Nat.add_sub_cancel] at h
    rcases h with h | h
    · omega
    · rw [shiftDown, if_pos (by rw [h]; rfl)]
theorem su_go (b j : Nat) (d : Array Int) (hj : j < b) (hl : ltInt d[j]! d[j - 1]! = true) : shiftUp ltInt b j d = shiftUp ltInt b (j + 1) (swp d j (j - 1)) := by rw [shiftUp, if_pos hj, if_neg (by rw [hl]; decide)]
theorem su_stop (b j : Nat) (d : Array Int) (h : ¬ j < b ∨ ltInt d[j]! d[j - 1]! = false) : shiftUp ltInt b j d = d := by
  rw [shiftUp]
  rcases h with h | h
  · rw [if_neg h]
  · by_cases hj : j < b
    · rw [if_pos hj, if_pos (by rw [h]; rfl)]
    · rw [if_neg hj]
theorem pi_t (a b n i : Nat) (d : Array Int) (h : scanSorted ltInt d b i = b) : partialIns ltInt a b (n + 1) i d = (d, true) := by rw [partialIns_succ, if_pos h]
theorem pi_f (a b n i k : Nat) (d : Array Int) (h : scanSorted ltInt d b i = k) (hk : k ≠ b) (h5 : b - a < 50) : partialIns ltInt a b (n + 1) i d = (d, false) := by rw [partialIns_succ, if_neg (by rw [h]; exact hk), if_pos h5]
theorem pi_g (a b n i k : Nat) (d d1 d2 d3 : Array Int) (h : scanSorted ltInt d b i = k) (hk : k ≠ b) (h5 : ¬ b - a < 50) (h1 : d1 = swp d k (k - 1)) (h2 : (if 2 ≤ k - a then shiftDown ltInt (k - 1) d1 else d1) = d2) (h3 : (if 2 ≤ b - k then shiftUp ltInt b (k + 1) d2 else d2) = d3) : partialIns ltInt a b (n + 1) i d = partialIns ltInt a b n k d3 := by
  subst h
  subst h1
  subst h2
  subst h3
  rw [partialIns]
  simp only
  rw [if_neg hk, if_neg h5]
structure EqP {α : Type} (a b : α) : Prop where
  eq : a = b
structure PiG (a b n i k : Nat) (d : Array Int) : Prop where
  out : ∀ d1 d2 d3, d1 = swp d k (k - 1) → (if 2 ≤ k - a then shiftDown ltInt (k - 1) d1 else d1) = d2 → (if 2 ≤ b - k then shiftUp ltInt b (k + 1) d2 else d2) = d3 → partialIns ltInt a b (n + 1) i d = partialIns ltInt a b n k d3
set_option maxHeartbeats 16000000 in
set_option maxRecDepth 100000 in
theorem partialInsertionSort64.calls (w : World) (g cap : Nat) (tl : List Value) (d : Array Int) (a b : Nat) (az bz : Int) (haz : Aside0 (az = a)) (hbz : Aside0 (bz = b)) (hR : Aside0 (Srt w g tl d w)) (hbd : Aside0 (b ≤ d.size)) (hab : Aside0 (a < b)) (hsz : Aside0 (d.size ≤ 1152921504606846976)) :
    Calls Try.prog 44 #[.slice (some ⟨g, 0, none⟩) d.size cap, .int .i64 az, .int .i64 bz] w fun e w' => e = .returned (.bool (partialInsertionSort ltInt d a b).2) ∧ (partialInsertionSort ltInt d a b).1.size = d.size ∧ Srt w g tl (partialInsertionSort ltInt d a b).1 w' := by
  have ha_ := haz.out
  have hb_ := hbz.out
  have hl_ := hab.out
  have hm_ := hbd.out
  have hn_ := hsz.out
  obtain ⟨iz0, hiz⟩ : ∃ iz0 : Int, iz0 = az + 1 := ⟨_, rfl⟩
  obtain ⟨lz, hlz⟩ : ∃ lz : Int, lz = bz - az := ⟨_, rfl⟩
  have Z0 := Aside0.mk (show iz0 = ((a + 1 : Nat) : Int) by omega)
  have LZ := Aside0.mk (show lz = ((b - a : Nat) : Int) by omega)
  have wi_ : wrap64 (az + 1) = iz0 := by unfold wrap64; omega
  have wl_ : wrap64 (bz - az) = lz := by unfold wrap64; omega
  clear ha_ hb_ hl_ hm_ hn_ hiz hlz
  go_enter Try.func44, Try.ntmps44
  go_wp2
  simp only [wi_]
  go_loopg [7, 8] 7 (fun kq v7 v8 w' => ∃ (z y : Int) (i s n : Nat) (dc : Array Int), v7 = .int .i64 z ∧ v8 = .int .i64 y ∧ Aside0 (z = i) ∧ Aside0 (y = s) ∧ Aside0 (s + n = 5 ∧ n < kq) ∧ Aside0 (a + 1 ≤ i ∧ i ≤ b) ∧ Aside0 (partialIns ltInt a b n i dc = partialInsertionSort ltInt d a b) ∧ Aside0 (dc.size = d.size) ∧ Aside0 (Srt w g tl dc w'))
  case atStart => exact ⟨_, _, a + 1, 0, 5, d, rfl, rfl, Z0, ⟨rfl⟩, ⟨by omega⟩, ⟨by have := hab.out; omega⟩, ⟨rfl⟩, ⟨rfl⟩, hR⟩
  case round =>
    clear hR
    obtain ⟨z, y, i, s, n, dc, rfl, rfl, hz, hy, hk, hi, hpi, HD, SR⟩ := hrel
    cases gk with
    | zero => exact absurd hk.out.2 (by omega)
    | succ k1 =>
      by_cases hs5 : s < 5
      · have cnd : decide (y < 5) = true := decide_eq_true (by have := hy.out; omega)
        have wy_ : wrap64 (y + 1) = y + 1 := by have := hy.out; unfold wrap64; omega
        have NN := Aside0.mk (show n = n - 1 + 1 by have := hk.out; omega)
        clear hs5
        go_upto_block 2 with (fail)
        go_cut [7] from 17 to 34 (fun s_ wc => ∃ (kz : Int) (k : Nat), s_ = .int .i64 kz ∧ Aside0 (kz = k) ∧ Aside0 (i ≤ k ∧ k ≤ b) ∧ Aside0 (scanSorted ltInt dc b i = k) ∧ Aside0 (Srt w g tl dc wc))
        case first =>
          go_wp2
          go_loopg [7] (b + 2) (fun kq v_ w' => ∃ (kz : Int) (k : Nat), v_ = .int .i64 kz ∧ Aside0 (kz = k) ∧ Aside0 (b - k < kq) ∧ Aside0 (i ≤ k ∧ k ≤ b) ∧ Aside0 (scanSorted ltInt dc b k = scanSorted ltInt dc b i) ∧ Aside0 (Srt w g tl dc w'))
          case atStart => exact ⟨_, i, rfl, hz, ⟨by omega⟩, ⟨by have := hi.out; omega⟩, ⟨rfl⟩, SR⟩
          case round =>
            clear SR
            obtain ⟨kz, k, rfl, hkz, hk2, hkb, hsc, SR⟩ := hrel
            cases gk with
            | zero => exact absurd hk2.out (by omega)
            | succ k2 =>
              have h1_ := hkz.out
              have h2_ := hkb.out
              have h3_ := hi.out
              have h4_ := hbd.out
              have h5_ := hsz.out
              by_cases hle : k < b
              · have cnd2 : decide (kz < bz) = true := decide_eq_true (by have := hbz.out; omega)
                have LE := Aside0.mk hle
                obtain ⟨zm, hzm⟩ : ∃ zm : Int, zm = kz - 1 := ⟨_, rfl⟩
                have wm_ : wrap64 (kz - 1) = zm := by unfold wrap64; omega
                have wp_ : wrap64 (kz + 1) = kz + 1 := by unfold wrap64; omega
                have P_kz := Aside0.mk (⟨by omega, by omega⟩ : kz.toNat = k ∧ k < d.size)
                have n1_kz := eq_true (show 0 ≤ kz by omega)
                have n2_kz := eq_true (show kz < (d.size : Int) by omega)
                have P_zm := Aside0.mk (⟨by omega, by omega⟩ : zm.toNat = k - 1 ∧ k - 1 < d.size)
                have n1_zm := eq_true (show 0 ≤ zm by omega)
                have n2_zm := eq_true (show zm < (d.size : Int) by omega)
                clear h1_ h2_ h3_ h4_ h5_ hle hzm
                obtain ⟨x1, hx1⟩ : ∃ x1, x1 = dc[k]! := ⟨_, rfl⟩
                have X_x1 := Aside0.mk hx1
                clear hx1
                have C_x1 := Aside0.mk (show wr.drew.cell? ⟨g, kz.toNat, none⟩ = some (.int .u64 x1) by rw [P_kz.out.1, X_x1.out]; exact SR.out.drew.cell (k) (by rw [HD.out]; exact P_kz.out.2))
                obtain ⟨x0, hx0⟩ : ∃ x0, x0 = dc[k - 1]! := ⟨_, rfl⟩
                have X_x0 := Aside0.mk hx0
                clear hx0
                have C_x0 := Aside0.mk (show wr.drew.cell? ⟨g, zm.toNat, none⟩ = some (.int .u64 x0) by rw [P_zm.out.1, X_x0.out]; exact SR.out.drew.cell (k - 1) (by rw [HD.out]; exact P_zm.out.2))
                obtain ⟨lb, hlb⟩ : ∃ lb, lb = ltInt x1 x0 := ⟨_, rfl⟩
                have LB := Aside0.mk hlb
                clear hlb
                go_wp2
                refine start_ (n := 16) (S := fun w' => w'.cell? ⟨g, kz.toNat, none⟩ = some (.int .u64 x1) ∧ w'.cell? ⟨g, zm.toNat, none⟩ = some (.int .u64 x0)) (ds := []) #[false, false, false, false, false, false, false, false, false, false, false, false, false, false, false, false] (by kernel_rfl) rfl rfl ⟨C_x1.out, C_x0.out⟩ (fun hHeld => ?_)
                refine pure_ (i := 0) (N := some 17) (v := ?_) (a' := ?_) #[true, false, false, false, false, false, false, false, false, false, false, false, false, false, false, false] rfl rfl (by kernel_rfl) (fun _ _ _ h => h) (Or.inl ⟨by rfl, ?_⟩) ?_ ?_
                rotate_left
                · intro w'
                  go_simp
                  with_reducible rfl
                rotate_left
                · simp only [Act.put, List.setIfInBounds_toArray, List.set_cons_zero, List.set_cons_succ, i64_w, i32_w]
                  rfl
                refine pure_ (i := 1) (N := some 18) (v := ?_) (a' := ?_) #[true, true, false, false, false, false, false, false, false, false, false, false, false, false, false, false] rfl rfl (by kernel_rfl) (fun _ _ _ h => h) (Or.inl ⟨by rfl, ?_⟩) ?_ ?_
                rotate_left
                · intro w'
                  go_simp
                  with_reducible rfl
                rotate_left
                · simp only [Act.put, List.setIfInBounds_toArray, List.set_cons_zero, List.set_cons_succ, i64_w, i32_w]
                  rfl
                refine pure_ (i := 2) (N := some 19) (v := ?_) (a' := ?_) #[true, true, true, false, false, false, false, false, false, false, false, false, false, false, false, false] rfl rfl (by kernel_rfl) (fun _ _ _ h => h) (Or.inl ⟨by rfl, ?_⟩) ?_ ?_
                rotate_left
                · intro w'
                  go_simp
                  with_reducible rfl
                rotate_left
                · simp only [Act.put, List.setIfInBounds_toArray, List.set_cons_zero, List.set_cons_succ, i64_w, i32_w]
                  rfl
                refine pure_ (i := 3) (N := some 20) (v := ?_) (a' := ?_) #[true, true, true, true, false, false, false, false, false, false, false, false, false, false, false, false] rfl rfl (by kernel_rfl) (fun _ _ _ h => h) (Or.inl ⟨by rfl, ?_⟩) ?_ ?_
                rotate_left
                · intro w'
                  go_simp
                  with_reducible rfl
                rotate_left
                · simp only [Act.put, List.setIfInBounds_toArray, List.set_cons_zero, List.set_cons_succ, i64_w, i32_w]
                  rfl
                refine pure_ (i := 4) (N := some 21) (v := ?_) (a' := ?_) #[true, true, true, true, true, false, false, false, false, false, false, false, false, false, false, false] rfl rfl (by kernel_rfl) (fun _ _ _ h => h) (Or.inl ⟨by rfl, ?_⟩) ?_ ?_
                rotate_left
                · intro w'
                  go_simp
                  with_reducible rfl
                rotate_left
                · simp only [Act.put, List.setIfInBounds_toArray, List.set_cons_zero, List.set_cons_succ, i64_w, i32_w]
                  rfl
                refine pure_ (i := 5) (N := some 22) (v := ?_) (a' := ?_) #[true, true, true, true, true, true, false, false, false, false, false, false, false, false, false, false] rfl rfl (by kernel_rfl) (fun _ _ _ h => h) (Or.inl ⟨by rfl, ?_⟩) ?_ ?_
                rotate_left
                · intro w'
                  go_simp
                  with_reducible rfl
                rotate_left
                · simp only [Act.put, List.setIfInBounds_toArray, List.set_cons_zero, List.set_cons_succ, i64_w, i32_w]
                  rfl
                refine pure_ (i := 6) (N := some 23) (v := ?_) (a' := ?_) #[true, true, true, true, true, true, true, false, false, false, false, false, false, false, false, false] rfl rfl (by kernel_rfl) (fun _ _ _ h => h) (Or.inl ⟨by rfl, ?_⟩) ?_ ?_
                rotate_left
                · intro w'
                  go_simp
                  with_reducible rfl
                rotate_left
                · simp only [Act.put, List.setIfInBounds_toArray, List.set_cons_zero, List.set_cons_succ, i64_w, i32_w]
                  rfl
                refine pure_ (i := 8) (N := some 25) (v := ?_) (a' := ?_) #[true, true, true, true, true, true, true, false, true, false, false, false, false, false, false, false] rfl rfl (by kernel_rfl) (fun _ _ _ h => h) (Or.inl ⟨by rfl, ?_⟩) ?_ ?_
                rotate_left
                · intro w'
                  go_simp
                  with_reducible rfl
                rotate_left
                · simp only [Act.put, List.setIfInBounds_toArray, List.set_cons_zero, List.set_cons_succ, i64_w, i32_w]
                  rfl
                refine pure_ (i := 9) (N := some 26) (v := ?_) (a' := ?_) #[true, true, true, true, true, true, true, false, true, true, false, false, false, false, false, false] rfl rfl (by kernel_rfl) (fun _ _ _ h => h) (Or.inl ⟨by rfl, ?_⟩) ?_ ?_
                rotate_left
                · intro w'
                  go_simp
                  with_reducible rfl
                rotate_left
                · simp only [Act.put, List.setIfInBounds_toArray, List.set_cons_zero, List.set_cons_succ, i64_w, i32_w]
                  rfl
                refine pure_ (i := 10) (N := some 27) (v := ?_) (a' := ?_) #[true, true, true, true, true, true, true, false, true, true, true, false, false, false, false, false] rfl rfl (by kernel_rfl) (fun _ _ _ h => h) (Or.inl ⟨by rfl, ?_⟩) ?_ ?_
                rotate_left
                · intro w'
                  go_simp
                  with_reducible rfl
                rotate_left
                · simp only [Act.put, List.setIfInBounds_toArray, List.set_cons_zero, List.set_cons_succ, i64_w, i32_w]
                  rfl
                refine pure_ (i := 11) (N := some 28) (v := ?_) (a' := ?_) #[true, true, true, true, true, true, true, false, true, true, true, true, false, false, false, false] rfl rfl (by kernel_rfl) (fun _ _ _ h => h) (Or.inl ⟨by rfl, ?_⟩) ?_ ?_
                rotate_left
                · intro w'
                  go_simp
                  with_reducible rfl
                rotate_left
                · simp only [Act.put, List.setIfInBounds_toArray, List.set_cons_zero, List.set_cons_succ, i64_w, i32_w]
                  rfl
                refine take_ (i := 7) (N := some 24) (v := ?_) (a' := ?_) #[true, true, true, true, true, true, true, true, true, true, true, true, false, false, false, false] rfl rfl (by kernel_rfl) (fun _ _ _ h => h) (Or.inl ⟨by rfl, ?_⟩) hHeld ?_ ?_
                rotate_left
                · rintro w' ⟨s0, s1⟩
                  go_simp
                  with_reducible rfl
                rotate_left
                · simp only [Act.put, List.setIfInBounds_toArray, List.set_cons_zero, List.set_cons_succ, i64_w, i32_w]
                  rfl
                refine take_ (i := 12) (N := some 29) (v := ?_) (a' := ?_) #[true, true, true, true, true, true, true, true, true, true, true, true, true, false, false, false] rfl rfl (by kernel_rfl) (fun _ _ _ h => h) (Or.inl ⟨by rfl, ?_⟩) hHeld ?_ ?_
                rotate_left
                · rintro w' ⟨s0, s1⟩
                  go_simp
                  with_reducible rfl
                rotate_left
                · simp only [Act.put, List.setIfInBounds_toArray, List.set_cons_zero, List.set_cons_succ, i64_w, i32_w]
                  rfl
                refine one_ (i := 13) (N := some 30) #[true, true, true, true, true, true, true, true, true, true, true, true, true, true, false, false] rfl rfl (by kernel_rfl) (by decide) (fun K hK => ?_)
                refine goes_ Try.func45 (by kernel_rfl) rfl #[.int .u64 x1, .int .u64 x0] (by rfl) rfl rfl (by simp only [List.map_toArray, List.map_cons, List.map_nil]; rfl) ?_
                with_reducible refine (Less64.as x1 x0 _ lb ⟨LB.out⟩).mono ?_
                rintro e w4 ⟨rfl, hbq⟩
                refine ⟨_, rfl, ?_⟩
                have mSR_ := Aside0.mk (SR.out.drew.below hbq)
                clear SR
                have SR := mSR_
                clear mSR_
                refine hK.out _ _ ⟨((hbq.cell (World.block_lt_of_cell? _ _ hHeld.1)).trans hHeld.1), ((hbq.cell (World.block_lt_of_cell? _ _ hHeld.2)).trans hHeld.2)⟩ (fun hHeld => ?_)
                clear hK K
                refine norm_ (a' := ?_) ?_ ?_
                rotate_left
                · show Act.put _ (some 30) _ = _
                  simp only [Act.put, List.setIfInBounds_toArray, List.set_cons_zero, List.set_cons_succ, i64_w, i32_w]
                  rfl
                refine pure_ (i := 14) (N := some 31) (v := ?_) (a' := ?_) #[true, true, true, true, true, true, true, true, true, true, true, true, true, true, true, false] rfl rfl (by kernel_rfl) (fun _ _ _ h => h) (Or.inl ⟨by rfl, ?_⟩) ?_ ?_
                rotate_left
                · intro w'
                  go_simp
                  with_reducible rfl
                rotate_left
                · simp only [Act.put, List.setIfInBounds_toArray, List.set_cons_zero, List.set_cons_succ, i64_w, i32_w]
                  rfl
                refine pure_ (i := 15) (N := some 32) (v := ?_) (a' := ?_) #[true, true, true, true, true, true, true, true, true, true, true, true, true, true, true, true] rfl rfl (by kernel_rfl) (fun _ _ _ h => h) (Or.inl ⟨by rfl, ?_⟩) ?_ ?_
                rotate_left
                · intro w'
                  go_simp
                  with_reducible rfl
                rotate_left
                · simp only [Act.put, List.setIfInBounds_toArray, List.set_cons_zero, List.set_cons_succ, i64_w, i32_w]
                  rfl
                refine done_ (by kernel_rfl) ?_
                have T_lb := LB
                clear LB hbq C_x1 C_x0
                cases lb
                · have GO_ := EqP.mk (ss_go b k dc LE.out (by rw [← X_x1.out, ← X_x0.out]; exact T_lb.out.symm))
                  go_wp2
                  go_roundg k2
                  case measure => exact Nat.lt_succ_self _
                  case rel => exact ⟨_, k + 1, rfl, ⟨by have := hkz.out; omega⟩, ⟨by have := hk2.out; have := LE.out; omega⟩, ⟨by have := hkb.out; have := LE.out; omega⟩, ⟨GO_.eq.symm.trans hsc.out⟩, SR⟩
                · have ST_ := EqP.mk (ss_stop b k dc (.inr (by rw [← X_x1.out, ← X_x0.out]; exact T_lb.out.symm)))
                  go_wp2
                  go_meet
                  exact ⟨_, k, rfl, hkz, hkb, ⟨hsc.out.symm.trans ST_.eq⟩, SR⟩
              · have cnd2 : decide (kz < bz) = false := decide_eq_false (by have := hbz.out; omega)
                have ST_ := EqP.mk (ss_stop b k dc (.inl hle))
                clear h1_ h2_ h3_ h4_ h5_ hle
                go_wp2
                refine start_ (n := 16) (S := fun w' => True) (ds := []) #[false, false, false, false, false, false, false, false, false, false, false, false, false, false, false, false] (by kernel_rfl) rfl rfl trivial (fun hHeld => ?_)
                refine pure_ (i := 0) (N := some 17) (v := ?_) (a' := ?_) #[true, false, false, false, false, false, false, false, false, false, false, false, false, false, false, false] rfl rfl (by kernel_rfl) (fun _ _ _ h => h) (Or.inl ⟨by rfl, ?_⟩) ?_ ?_
                rotate_left
                · intro w'
                  go_simp
                  with_reducible rfl
                rotate_left
                · simp only [Act.put, List.setIfInBounds_toArray, List.set_cons_zero, List.set_cons_succ, i64_w, i32_w]
                  rfl
                refine pure_ (i := 1) (N := some 18) (v := ?_) (a' := ?_) #[true, true, false, false, false, false, false, false, false, false, false, false, false, false, false, false] rfl rfl (by kernel_rfl) (fun _ _ _ h => h) (Or.inl ⟨by rfl, ?_⟩) ?_ ?_
                rotate_left
                · intro w'
                  go_simp
                  with_reducible rfl
                rotate_left
                · simp only [Act.put, List.setIfInBounds_toArray, List.set_cons_zero, List.set_cons_succ, i64_w, i32_w]
                  rfl
                refine pure_ (i := 2) (N := some 19) (v := ?_) (a' := ?_) #[true, true, true, false, false, false, false, false, false, false, false, false, false, false, false, false] rfl rfl (by kernel_rfl) (fun _ _ _ h => h) (Or.inl ⟨by rfl, ?_⟩) ?_ ?_
                rotate_left
                · intro w'
                  go_simp
                  with_reducible rfl
                rotate_left
                · simp only [Act.put, List.setIfInBounds_toArray, List.set_cons_zero, List.set_cons_succ, i64_w, i32_w]
                  rfl
                refine pure_ (i := 3) (N := some 20) (v := ?_) (a' := ?_) #[true, true, true, true, false, false, false, false, false, false, false, false, false, false, false, false] rfl rfl (by kernel_rfl) (fun _ _ _ h => h) (Or.inl ⟨by rfl, ?_⟩) ?_ ?_
                rotate_left
                · intro w'
                  go_simp
                  with_reducible rfl
                rotate_left
                · simp only [Act.put, List.setIfInBounds_toArray, List.set_cons_zero, List.set_cons_succ, i64_w, i32_w]
                  rfl
                refine pure_ (i := 4) (N := some 21) (v := undef) (a' := ?_) #[true, true, true, true, true, false, false, false, false, false, false, false, false, false, false, false] rfl rfl (by kernel_rfl) (fun _ _ _ h => h) (Or.inr ⟨by rfl, rfl⟩) ?_ ?_
                rotate_left
                · simp only [Act.put, List.setIfInBounds_toArray, List.set_cons_zero, List.set_cons_succ, i64_w, i32_w]
                  rfl
                refine pure_ (i := 5) (N := some 22) (v := undef) (a' := ?_) #[true, true, true, true, true, true, false, false, false, false, false, false, false, false, false, false] rfl rfl (by kernel_rfl) (fun _ _ _ h => h) (Or.inr ⟨by rfl, rfl⟩) ?_ ?_
                rotate_left
                · simp only [Act.put, List.setIfInBounds_toArray, List.set_cons_zero, List.set_cons_succ, i64_w, i32_w]
                  rfl
                refine pure_ (i := 6) (N := some 23) (v := undef) (a' := ?_) #[true, true, true, true, true, true, true, false, false, false, false, false, false, false, false, false] rfl rfl (by kernel_rfl) (fun _ _ _ h => h) (Or.inr ⟨by rfl, rfl⟩) ?_ ?_
                rotate_left
                · simp only [Act.put, List.setIfInBounds_toArray, List.set_cons_zero, List.set_cons_succ, i64_w, i32_w]
                  rfl
                refine pure_ (i := 7) (N := some 24) (v := undef) (a' := ?_) #[true, true, true, true, true, true, true, true, false, false, false, false, false, false, false, false] rfl rfl (by kernel_rfl) (fun _ _ _ h => h) (Or.inr ⟨by rfl, rfl⟩) ?_ ?_
                rotate_left
                · simp only [Act.put, List.setIfInBounds_toArray, List.set_cons_zero, List.set_cons_succ, i64_w, i32_w]
                  rfl
                refine pure_ (i := 8) (N := some 25) (v := undef) (a' := ?_) #[true, true, true, true, true, true, true, true, true, false, false, false, false, false, false, false] rfl rfl (by kernel_rfl) (fun _ _ _ h => h) (Or.inr ⟨by rfl, rfl⟩) ?_ ?_
                rotate_left
                · simp only [Act.put, List.setIfInBounds_toArray, List.set_cons_zero, List.set_cons_succ, i64_w, i32_w]
                  rfl
                refine pure_ (i := 9) (N := some 26) (v := undef) (a' := ?_) #[true, true, true, true, true, true, true, true, true, true, false, false, false, false, false, false] rfl rfl (by kernel_rfl) (fun _ _ _ h => h) (Or.inr ⟨by rfl, rfl⟩) ?_ ?_
                rotate_left
                · simp only [Act.put, List.setIfInBounds_toArray, List.set_cons_zero, List.set_cons_succ, i64_w, i32_w]
                  rfl
                refine pure_ (i := 10) (N := some 27) (v := undef) (a' := ?_) #[true, true, true, true, true, true, true, true, true, true, true, false, false, false, false, false] rfl rfl (by kernel_rfl) (fun _ _ _ h => h) (Or.inr ⟨by rfl, rfl⟩) ?_ ?_
                rotate_left
                · simp only [Act.put, List.setIfInBounds_toArray, List.set_cons_zero, List.set_cons_succ, i64_w, i32_w]
                  rfl
                refine pure_ (i := 11) (N := some 28) (v := undef) (a' := ?_) #[true, true, true, true, true, true, true, true, true, true, true, true, false, false, false, false] rfl rfl (by kernel_rfl) (fun _ _ _ h => h) (Or.inr ⟨by rfl, rfl⟩) ?_ ?_
                rotate_left
                · simp only [Act.put, List.setIfInBounds_toArray, List.set_cons_zero, List.set_cons_succ, i64_w, i32_w]
                  rfl
                refine pure_ (i := 12) (N := some 29) (v := undef) (a' := ?_) #[true, true, true, true, true, true, true, true, true, true, true, true, true, false, false, false] rfl rfl (by kernel_rfl) (fun _ _ _ h => h) (Or.inr ⟨by rfl, rfl⟩) ?_ ?_
                rotate_left
                · simp only [Act.put, List.setIfInBounds_toArray, List.set_cons_zero, List.set_cons_succ, i64_w, i32_w]
                  rfl
                refine pure_ (i := 13) (N := some 30) (v := undef) (a' := ?_) #[true, true, true, true, true, true, true, true, true, true, true, true, true, true, false, false] rfl rfl (by kernel_rfl) (fun _ _ _ h => h) (Or.inr ⟨by rfl, rfl⟩) ?_ ?_
                rotate_left
                · simp only [Act.put, List.setIfInBounds_toArray, List.set_cons_zero, List.set_cons_succ, i64_w, i32_w]
                  rfl
                refine pure_ (i := 14) (N := some 31) (v := undef) (a' := ?_) #[true, true, true, true, true, true, true, true, true, true, true, true, true, true, true, false] rfl rfl (by kernel_rfl) (fun _ _ _ h => h) (Or.inr ⟨by rfl, rfl⟩) ?_ ?_
                rotate_left
                · simp only [Act.put, List.setIfInBounds_toArray, List.set_cons_zero, List.set_cons_succ, i64_w, i32_w]
                  rfl
                refine pure_ (i := 15) (N := some 32) (v := ?_) (a' := ?_) #[true, true, true, true, true, true, true, true, true, true, true, true, true, true, true, true] rfl rfl (by kernel_rfl) (fun _ _ _ h => h) (Or.inl ⟨by rfl, ?_⟩) ?_ ?_
                rotate_left
                · intro w'
                  go_simp
                  with_reducible rfl
                rotate_left
                · simp only [Act.put, List.setIfInBounds_toArray, List.set_cons_zero, List.set_cons_succ, i64_w, i32_w]
                  rfl
                refine done_ (by kernel_rfl) ?_
                have SR_ := Aside0.mk SR.out.drew
                clear SR
                go_wp2
                go_meet
                exact ⟨_, k, rfl, hkz, hkb, ⟨hsc.out.symm.trans ST_.eq⟩, SR_⟩
        case rest =>
          clear SR
          obtain ⟨kz, k, rfl, hkz, hkb, hsc, SR⟩ := hcut
          have h1_ := hkz.out
          have h2_ := hkb.out
          have h3_ := hi.out
          have h4_ := hbd.out
          have h5_ := hsz.out
          have h6_ := hbz.out
          by_cases heq : k = b
          · have cn7 : (kz == bz) = true := by rw [beq_iff_eq]; omega
            have cn7b : decide (kz = bz) = true := decide_eq_true (by omega)
            have PE := EqP.mk (show partialInsertionSort ltInt d a b = (dc, true) by rw [← hpi.out, NN.out]; exact pi_t a b _ i dc (by rw [hsc.out, heq]))
            clear h1_ h2_ h3_ h4_ h5_ h6_ heq
            go_wp2
            go_ret
            exact ⟨by rw [PE.eq]; rfl, by rw [PE.eq]; exact HD.out, by rw [PE.eq]; exact SR.out⟩
          · have cn7 : (kz == bz) = false := by rw [beq_eq_false_iff_ne]; omega
            have cn7b : decide (kz = bz) = false := decide_eq_false (by omega)
            have KB := Aside0.mk (show k < b by omega)
            by_cases h50 : b - a < 50
            · have cn9 : decide (lz < 50) = true := decide_eq_true (by have := LZ.out; omega)
              have PE := EqP.mk (show partialInsertionSort ltInt d a b = (dc, false) by rw [← hpi.out, NN.out]; exact pi_f a b _ i k dc hsc.out heq h50)
              clear h1_ h2_ h3_ h4_ h5_ h6_ heq h50
              go_wp2
              go_ret
              exact ⟨by rw [PE.eq]; rfl, by rw [PE.eq]; exact HD.out, by rw [PE.eq]; exact SR.out⟩
            · have cn9 : decide (lz < 50) = false := decide_eq_false (by have := LZ.out; omega)
              have PG := PiG.mk (fun d1 d2 d3 h1 h2 h3 => (pi_g a b (n - 1) i k dc d1 d2 d3 hsc.out heq h50 h1 h2 h3))
              obtain ⟨zm, hzm⟩ : ∃ zm : Int, zm = kz - 1 := ⟨_, rfl⟩
              have ZM := Aside0.mk (show zm = ((k - 1 : Nat) : Int) by omega)
              have wm_ : wrap64 (kz - 1) = zm := by unfold wrap64; omega
              obtain ⟨df, hdf⟩ : ∃ df : Int, df = kz - az := ⟨_, rfl⟩
              have DF := Aside0.mk (show df = ((k - a : Nat) : Int) by have := haz.out; omega)
              have wd_ : wrap64 (kz - az) = df := by have := haz.out; unfold wrap64; omega
              obtain ⟨dg, hdg⟩ : ∃ dg : Int, dg = bz - kz := ⟨_, rfl⟩
              have DG := Aside0.mk (show dg = ((b - k : Nat) : Int) by omega)
              have wg_ : wrap64 (bz - kz) = dg := by unfold wrap64; omega
              have K1 := Aside0.mk (show 1 ≤ k ∧ a + 1 ≤ k by omega)
              obtain ⟨kp, hkp⟩ : ∃ kp : Int, kp = kz + 1 := ⟨_, rfl⟩
              have KP := Aside0.mk (show kp = ((k + 1 : Nat) : Int) by omega)
              have wk_ : wrap64 (kz + 1) = kp := by unfold wrap64; omega
              have P_kz := Aside0.mk (⟨by omega, by omega⟩ : kz.toNat = k ∧ k < d.size)
              have n1_kz := eq_true (show 0 ≤ kz by omega)
              have n2_kz := eq_true (show kz < (d.size : Int) by omega)
              have P_zm := Aside0.mk (⟨by omega, by omega⟩ : zm.toNat = k - 1 ∧ k - 1 < d.size)
              have n1_zm := eq_true (show 0 ≤ zm by omega)
              have n2_zm := eq_true (show zm < (d.size : Int) by omega)
              clear h1_ h2_ h3_ h4_ h5_ h6_ heq h50 hzm hdf hdg hkp
              obtain ⟨x1, hx1⟩ : ∃ x1, x1 = dc[k]! := ⟨_, rfl⟩
              have X_x1 := Aside0.mk hx1
              clear hx1
              have C_x1 := Aside0.mk (show wc.drew.cell? ⟨g, kz.toNat, none⟩ = some (.int .u64 x1) by rw [P_kz.out.1, X_x1.out]; exact SR.out.drew.cell (k) (by rw [HD.out]; exact P_kz.out.2))
              obtain ⟨x0, hx0⟩ : ∃ x0, x0 = dc[k - 1]! := ⟨_, rfl⟩
              have X_x0 := Aside0.mk hx0
              clear hx0
              have C_x0 := Aside0.mk (show wc.drew.cell? ⟨g, zm.toNat, none⟩ = some (.int .u64 x0) by rw [P_zm.out.1, X_x0.out]; exact SR.out.drew.cell (k - 1) (by rw [HD.out]; exact P_zm.out.2))
              have fz1_ := SR.out.frozen kz.toNat
              have fz2_ := SR.out.frozen zm.toNat
              have s2_ := SR.out.set kz.toNat (by rw [P_kz.out.1, HD.out]; exact P_kz.out.2) x0
              have f2_ := s2_.frozen zm.toNat
              have c2_ := s2_.cell zm.toNat (by rw [Array.size_setIfInBounds, HD.out, P_zm.out.1]; exact P_zm.out.2)
              clear s2_
              go_wp2
              refine start_ (n := 18) (S := fun w' => w'.cell? ⟨g, kz.toNat, none⟩ = some (.int .u64 x1) ∧ w'.cell? ⟨g, zm.toNat, none⟩ = some (.int .u64 x0)) (ds := [15, 17]) #[false, false, false, false, false, false, false, false, false, false, false, false, false, false, false, false, false, false] (by kernel_rfl) rfl rfl ⟨C_x1.out, C_x0.out⟩ (fun hHeld => ?_)
              refine pure_ (i := 0) (N := some 42) (v := ?_) (a' := ?_) #[true, false, false, false, false, false, false, false, false, false, false, false, false, false, false, false, false, false] rfl rfl (by kernel_rfl) (fun _ _ _ h => h) (Or.inl ⟨by rfl, ?_⟩) ?_ ?_
              rotate_left
              · intro w'
                go_simp
                with_reducible rfl
              rotate_left
              · simp only [Act.put, List.setIfInBounds_toArray, List.set_cons_zero, List.set_cons_succ, i64_w, i32_w]
                rfl
              refine pure_ (i := 1) (N := some 43) (v := ?_) (a' := ?_) #[true, true, false, false, false, false, false, false, false, false, false, false, false, false, false, false, false, false] rfl rfl (by kernel_rfl) (fun _ _ _ h => h) (Or.inl ⟨by rfl, ?_⟩) ?_ ?_
              rotate_left
              · intro w'
                go_simp
                with_reducible rfl
              rotate_left
              · simp only [Act.put, List.setIfInBounds_toArray, List.set_cons_zero, List.set_cons_succ, i64_w, i32_w]
                rfl
              refine pure_ (i := 2) (N := some 44) (v := ?_) (a' := ?_) #[true, true, true, false, false, false, false, false, false, false, false, false, false, false, false, false, false, false] rfl rfl (by kernel_rfl) (fun _ _ _ h => h) (Or.inl ⟨by rfl, ?_⟩) ?_ ?_
              rotate_left
              · intro w'
                go_simp
                with_reducible rfl
              rotate_left
              · simp only [Act.put, List.setIfInBounds_toArray, List.set_cons_zero, List.set_cons_succ, i64_w, i32_w]
                rfl
              refine pure_ (i := 3) (N := some 45) (v := ?_) (a' := ?_) #[true, true, true, true, false, false, false, false, false, false, false, false, false, false, false, false, false, false] rfl rfl (by kernel_rfl) (fun _ _ _ h => h) (Or.inl ⟨by rfl, ?_⟩) ?_ ?_
              rotate_left
              · intro w'
                go_simp
                with_reducible rfl
              rotate_left
              · simp only [Act.put, List.setIfInBounds_toArray, List.set_cons_zero, List.set_cons_succ, i64_w, i32_w]
                rfl
              refine pure_ (i := 4) (N := some 46) (v := ?_) (a' := ?_) #[true, true, true, true, true, false, false, false, false, false, false, false, false, false, false, false, false, false] rfl rfl (by kernel_rfl) (fun _ _ _ h => h) (Or.inl ⟨by rfl, ?_⟩) ?_ ?_
              rotate_left
              · intro w'
                go_simp
                with_reducible rfl
              rotate_left
              · simp only [Act.put, List.setIfInBounds_toArray, List.set_cons_zero, List.set_cons_succ, i64_w, i32_w]
                rfl
              refine pure_ (i := 5) (N := some 47) (v := ?_) (a' := ?_) #[true, true, true, true, true, true, false, false, false, false, false, false, false, false, false, false, false, false] rfl rfl (by kernel_rfl) (fun _ _ _ h => h) (Or.inl ⟨by rfl, ?_⟩) ?_ ?_
              rotate_left
              · intro w'
                go_simp
                with_reducible rfl
              rotate_left
              · simp only [Act.put, List.setIfInBounds_toArray, List.set_cons_zero, List.set_cons_succ, i64_w, i32_w]
                rfl
              refine pure_ (i := 6) (N := some 48) (v := ?_) (a' := ?_) #[true, true, true, true, true, true, true, false, false, false, false, false, false, false, false, false, false, false] rfl rfl (by kernel_rfl) (fun _ _ _ h => h) (Or.inl ⟨by rfl, ?_⟩) ?_ ?_
              rotate_left
              · intro w'
                go_simp
                with_reducible rfl
              rotate_left
              · simp only [Act.put, List.setIfInBounds_toArray, List.set_cons_zero, List.set_cons_succ, i64_w, i32_w]
                rfl
              refine pure_ (i := 7) (N := some 49) (v := ?_) (a' := ?_) #[true, true, true, true, true, true, true, true, false, false, false, false, false, false, false, false, false, false] rfl rfl (by kernel_rfl) (fun _ _ _ h => h) (Or.inl ⟨by rfl, ?_⟩) ?_ ?_
              rotate_left
              · intro w'
                go_simp
                with_reducible rfl
              rotate_left
              · simp only [Act.put, List.setIfInBounds_toArray, List.set_cons_zero, List.set_cons_succ, i64_w, i32_w]
                rfl
              refine pure_ (i := 8) (N := some 50) (v := ?_) (a' := ?_) #[true, true, true, true, true, true, true, true, true, false, false, false, false, false, false, false, false, false] rfl rfl (by kernel_rfl) (fun _ _ _ h => h) (Or.inl ⟨by rfl, ?_⟩) ?_ ?_
              rotate_left
              · intro w'
                go_simp
                with_reducible rfl
              rotate_left
              · simp only [Act.put, List.setIfInBounds_toArray, List.set_cons_zero, List.set_cons_succ, i64_w, i32_w]
                rfl
              refine pure_ (i := 10) (N := some 52) (v := ?_) (a' := ?_) #[true, true, true, true, true, true, true, true, true, false, true, false, false, false, false, false, false, false] rfl rfl (by kernel_rfl) (fun _ _ _ h => h) (Or.inl ⟨by rfl, ?_⟩) ?_ ?_
              rotate_left
              · intro w'
                go_simp
                with_reducible rfl
              rotate_left
              · simp only [Act.put, List.setIfInBounds_toArray, List.set_cons_zero, List.set_cons_succ, i64_w, i32_w]
                rfl
              refine pure_ (i := 11) (N := some 53) (v := ?_) (a' := ?_) #[true, true, true, true, true, true, true, true, true, false, true, true, false, false, false, false, false, false] rfl rfl (by kernel_rfl) (fun _ _ _ h => h) (Or.inl ⟨by rfl, ?_⟩) ?_ ?_
              rotate_left
              · intro w'
                go_simp
                with_reducible rfl
              rotate_left
              · simp only [Act.put, List.setIfInBounds_toArray, List.set_cons_zero, List.set_cons_succ, i64_w, i32_w]
                rfl
              refine pure_ (i := 12) (N := some 54) (v := ?_) (a' := ?_) #[true, true, true, true, true, true, true, true, true, false, true, true, true, false, false, false, false, false] rfl rfl (by kernel_rfl) (fun _ _ _ h => h) (Or.inl ⟨by rfl, ?_⟩) ?_ ?_
              rotate_left
              · intro w'
                go_simp
                with_reducible rfl
              rotate_left
              · simp only [Act.put, List.setIfInBounds_toArray, List.set_cons_zero, List.set_cons_succ, i64_w, i32_w]
                rfl
              refine take_ (i := 9) (N := some 51) (v := ?_) (a' := ?_) #[true, true, true, true, true, true, true, true, true, true, true, true, true, false, false, false, false, false] rfl rfl (by kernel_rfl) (fun _ _ _ h => h) (Or.inl ⟨by rfl, ?_⟩) hHeld ?_ ?_
              rotate_left
              · rintro w' ⟨s0, s1⟩
                go_simp
                with_reducible rfl
              rotate_left
              · simp only [Act.put, List.setIfInBounds_toArray, List.set_cons_zero, List.set_cons_succ, i64_w, i32_w]
                rfl
              refine take_ (i := 13) (N := some 55) (v := ?_) (a' := ?_) #[true, true, true, true, true, true, true, true, true, true, true, true, true, true, false, false, false, false] rfl rfl (by kernel_rfl) (fun _ _ _ h => h) (Or.inl ⟨by rfl, ?_⟩) hHeld ?_ ?_
              rotate_left
              · rintro w' ⟨s0, s1⟩
                go_simp
                with_reducible rfl
              rotate_left
              · simp only [Act.put, List.setIfInBounds_toArray, List.set_cons_zero, List.set_cons_succ, i64_w, i32_w]
                rfl
              refine pure_ (i := 14) (N := some 56) (v := ?_) (a' := ?_) #[true, true, true, true, true, true, true, true, true, true, true, true, true, true, true, false, false, false] rfl rfl (by kernel_rfl) (fun _ _ _ h => h) (Or.inl ⟨by rfl, ?_⟩) ?_ ?_
              rotate_left
              · intro w'
                go_simp
                with_reducible rfl
              rotate_left
              · simp only [Act.put, List.setIfInBounds_toArray, List.set_cons_zero, List.set_cons_succ, i64_w, i32_w]
                rfl
              refine last_ (i := 15) (N := none) #[true, true, true, true, true, true, true, true, true, true, true, true, true, true, true, true, false, false] rfl rfl (by kernel_rfl) (by decide) (fun K hK => ?_)
              refine skip_ (w1 := ?_) (by rfl) rfl ?_ ?_
              rotate_left
              · go_simp
                rfl
              refine hK.out _ _ ?_
              clear hK K
              refine pure_ (i := 16) (N := some 57) (v := ?_) (a' := ?_) #[true, true, true, true, true, true, true, true, true, true, true, true, true, true, true, true, true, false] rfl rfl (by kernel_rfl) (fun _ _ _ h => h) (Or.inl ⟨by rfl, ?_⟩) ?_ ?_
              rotate_left
              · intro w'
                go_simp
                with_reducible rfl
              rotate_left
              · simp only [Act.put, List.setIfInBounds_toArray, List.set_cons_zero, List.set_cons_succ, i64_w, i32_w]
                rfl
              refine last_ (i := 17) (N := none) #[true, true, true, true, true, true, true, true, true, true, true, true, true, true, true, true, true, true] rfl rfl (by kernel_rfl) (by decide) (fun K hK => ?_)
              refine skip_ (w1 := ?_) (by rfl) rfl ?_ ?_
              rotate_left
              · go_simp
                rfl
              refine hK.out _ _ ?_
              clear hK K
              refine done_ (by kernel_rfl) ?_
              have SW_ := Aside0.mk (show Srt w g tl (swp dc (k) (k - 1)) ((wc.setCell ⟨g, kz.toNat, none⟩ (.int .u64 x0)).setCell ⟨g, zm.toNat, none⟩ (.int .u64 x1)).drew by rw [P_kz.out.1, P_zm.out.1, X_x1.out, X_x0.out]; exact (SR.out.swp (k) (k - 1) (by rw [HD.out]; exact P_kz.out.2) (by rw [HD.out]; exact P_zm.out.2)).drew)
              clear SR fz1_ fz2_ f2_ c2_ C_x1 C_x0
              have SR := SW_
              clear SW_
              obtain ⟨d1, hd1⟩ : ∃ d1, d1 = swp dc k (k - 1) := ⟨_, rfl⟩
              rw [← hd1] at SR
              have D1 := EqP.mk hd1
              have HD1 := Aside0.mk (show d1.size = d.size by rw [hd1, swp_size, HD.out])
              clear hd1 X_x1 X_x0 HD
              go_upto_if 61 with (fail)
              simp only [wd_, wm_, wl_]
              go_cut [9] from 62 to 94 (fun s_ wc => ∃ (d2 : Array Int), Aside0 ((if 2 ≤ k - a then shiftDown ltInt (k - 1) d1 else d1) = d2) ∧ Aside0 (d2.size = d.size) ∧ Aside0 (Srt w g tl d2 wc))
              case first =>
                go_wp2
                · rename_i hc_
                  have hc2 : 2 ≤ k - a := by have := DF.out; omega
                  have IFP := EqP.mk (show (if 2 ≤ k - a then shiftDown ltInt (k - 1) d1 else d1) = shiftDown ltInt (k - 1) d1 from if_pos hc2)
                  clear hc2 hc_
                  (try simp only [wm_])
                  go_loopg [9] (d.size + 2) (fun kq v_ w' => ∃ (jz : Int) (j : Nat) (dj : Array Int), v_ = .int .i64 jz ∧ Aside0 (jz = j) ∧ Aside0 (j < kq) ∧ Aside0 (1 ≤ j + 1 ∧ j < d.size) ∧ Aside0 (shiftDown ltInt j dj = shiftDown ltInt (k - 1) d1) ∧ Aside0 (dj.size = d.size) ∧ Aside0 (Srt w g tl dj w'))
                  case atStart => exact ⟨_, (k - 1), d1, rfl, ZM, ⟨by have := hbd.out; have := KB.out; omega⟩, ⟨by have := K1.out; have := KB.out; have := hbd.out; omega⟩, ⟨rfl⟩, HD1, SR⟩
                  case round =>
                    clear SR
                    obtain ⟨jz, j, dj, rfl, hjz, hj2, hjr, hsh, HJ, SR⟩ := hrel
                    cases gk with
                    | zero => exact absurd hj2.out (by omega)
                    | succ k2 =>
                      by_cases hle : 1 ≤ j
                      · have LE := Aside0.mk hle
                        have c3_ : decide (jz ≥ 1) = true := decide_eq_true (by have := hjz.out; have := hbz.out; omega)
                        have h1_ := hjz.out
                        have h2_ := hjr.out
                        have h4_ := hbd.out
                        have h5_ := hsz.out
                        have h6_ := K1.out
                        obtain ⟨jm, hjm⟩ : ∃ jm : Int, jm = jz - 1 := ⟨_, rfl⟩
                        have wj_ : wrap64 (jz - 1) = jm := by unfold wrap64; omega
                        have wp_ : wrap64 (jz + 1) = jz + 1 := by unfold wrap64; omega
                        have JM := Aside0.mk (show jm = ((j - 1 : Nat) : Int) by omega)
                        have P_jz := Aside0.mk (⟨by omega, by omega⟩ : jz.toNat = j ∧ j < d.size)
                        have n1_jz := eq_true (show 0 ≤ jz by omega)
                        have n2_jz := eq_true (show jz < (d.size : Int) by omega)
                        have P_jm := Aside0.mk (⟨by omega, by omega⟩ : jm.toNat = j - 1 ∧ j - 1 < d.size)
                        have n1_jm := eq_true (show 0 ≤ jm by omega)
                        have n2_jm := eq_true (show jm < (d.size : Int) by omega)
                        clear h1_ h2_ h4_ h5_ h6_ hle hjm
                        obtain ⟨y1, hy1⟩ : ∃ y1, y1 = dj[j]! := ⟨_, rfl⟩
                        have X_y1 := Aside0.mk hy1
                        clear hy1
                        have C_y1 := Aside0.mk (show wr.drew.cell? ⟨g, jz.toNat, none⟩ = some (.int .u64 y1) by rw [P_jz.out.1, X_y1.out]; exact SR.out.drew.cell (j) (by rw [HJ.out]; exact P_jz.out.2))
                        obtain ⟨y0, hy0⟩ : ∃ y0, y0 = dj[j - 1]! := ⟨_, rfl⟩
                        have X_y0 := Aside0.mk hy0
                        clear hy0
                        have C_y0 := Aside0.mk (show wr.drew.cell? ⟨g, jm.toNat, none⟩ = some (.int .u64 y0) by rw [P_jm.out.1, X_y0.out]; exact SR.out.drew.cell (j - 1) (by rw [HJ.out]; exact P_jm.out.2))
                        obtain ⟨lb, hlb⟩ : ∃ lb, lb = ltInt y1 y0 := ⟨_, rfl⟩
                        have LB := Aside0.mk hlb
                        clear hlb
                        go_wp2
                        refine start_ (n := 11) (S := fun w' => w'.cell? ⟨g, jz.toNat, none⟩ = some (.int .u64 y1) ∧ w'.cell? ⟨g, jm.toNat, none⟩ = some (.int .u64 y0)) (ds := []) #[false, false, false, false, false, false, false, false, false, false, false] (by kernel_rfl) rfl rfl ⟨C_y1.out, C_y0.out⟩ (fun hHeld => ?_)
                        refine pure_ (i := 0) (N := some 68) (v := ?_) (a' := ?_) #[true, false, false, false, false, false, false, false, false, false, false] rfl rfl (by kernel_rfl) (fun _ _ _ h => h) (Or.inl ⟨by rfl, ?_⟩) ?_ ?_
                        rotate_left
                        · intro w'
                          go_simp
                          with_reducible rfl
                        rotate_left
                        · simp only [Act.put, List.setIfInBounds_toArray, List.set_cons_zero, List.set_cons_succ, i64_w, i32_w]
                          rfl
                        refine pure_ (i := 1) (N := some 69) (v := ?_) (a' := ?_) #[true, true, false, false, false, false, false, false, false, false, false] rfl rfl (by kernel_rfl) (fun _ _ _ h => h) (Or.inl ⟨by rfl, ?_⟩) ?_ ?_
                        rotate_left
                        · intro w'
                          go_simp
                          with_reducible rfl
                        rotate_left
                        · simp only [Act.put, List.setIfInBounds_toArray, List.set_cons_zero, List.set_cons_succ, i64_w, i32_w]
                          rfl
                        refine pure_ (i := 2) (N := some 70) (v := ?_) (a' := ?_) #[true, true, true, false, false, false, false, false, false, false, false] rfl rfl (by kernel_rfl) (fun _ _ _ h => h) (Or.inl ⟨by rfl, ?_⟩) ?_ ?_
                        rotate_left
                        · intro w'
                          go_simp
                          with_reducible rfl
                        rotate_left
                        · simp only [Act.put, List.setIfInBounds_toArray, List.set_cons_zero, List.set_cons_succ, i64_w, i32_w]
                          rfl
                        refine pure_ (i := 4) (N := some 72) (v := ?_) (a' := ?_) #[true, true, true, false, true, false, false, false, false, false, false] rfl rfl (by kernel_rfl) (fun _ _ _ h => h) (Or.inl ⟨by rfl, ?_⟩) ?_ ?_
                        rotate_left
                        · intro w'
                          go_simp
                          with_reducible rfl
                        rotate_left
                        · simp only [Act.put, List.setIfInBounds_toArray, List.set_cons_zero, List.set_cons_succ, i64_w, i32_w]
                          rfl
                        refine pure_ (i := 5) (N := some 73) (v := ?_) (a' := ?_) #[true, true, true, false, true, true, false, false, false, false, false] rfl rfl (by kernel_rfl) (fun _ _ _ h => h) (Or.inl ⟨by rfl, ?_⟩) ?_ ?_
                        rotate_left
                        · intro w'
                          go_simp
                          with_reducible rfl
                        rotate_left
                        · simp only [Act.put, List.setIfInBounds_toArray, List.set_cons_zero, List.set_cons_succ, i64_w, i32_w]
                          rfl
                        refine pure_ (i := 6) (N := some 74) (v := ?_) (a' := ?_) #[true, true, true, false, true, true, true, false, false, false, false] rfl rfl (by kernel_rfl) (fun _ _ _ h => h) (Or.inl ⟨by rfl, ?_⟩) ?_ ?_
                        rotate_left
                        · intro w'
                          go_simp
                          with_reducible rfl
                        rotate_left
                        · simp only [Act.put, List.setIfInBounds_toArray, List.set_cons_zero, List.set_cons_succ, i64_w, i32_w]
                          rfl
                        refine pure_ (i := 7) (N := some 75) (v := ?_) (a' := ?_) #[true, true, true, false, true, true, true, true, false, false, false] rfl rfl (by kernel_rfl) (fun _ _ _ h => h) (Or.inl ⟨by rfl, ?_⟩) ?_ ?_
                        rotate_left
                        · intro w'
                          go_simp
                          with_reducible rfl
                        rotate_left
                        · simp only [Act.put, List.setIfInBounds_toArray, List.set_cons_zero, List.set_cons_succ, i64_w, i32_w]
                          rfl
                        refine take_ (i := 3) (N := some 71) (v := ?_) (a' := ?_) #[true, true, true, true, true, true, true, true, false, false, false] rfl rfl (by kernel_rfl) (fun _ _ _ h => h) (Or.inl ⟨by rfl, ?_⟩) hHeld ?_ ?_
                        rotate_left
                        · rintro w' ⟨s0, s1⟩
                          go_simp
                          with_reducible rfl
                        rotate_left
                        · simp only [Act.put, List.setIfInBounds_toArray, List.set_cons_zero, List.set_cons_succ, i64_w, i32_w]
                          rfl
                        refine take_ (i := 8) (N := some 76) (v := ?_) (a' := ?_) #[true, true, true, true, true, true, true, true, true, false, false] rfl rfl (by kernel_rfl) (fun _ _ _ h => h) (Or.inl ⟨by rfl, ?_⟩) hHeld ?_ ?_
                        rotate_left
                        · rintro w' ⟨s0, s1⟩
                          go_simp
                          with_reducible rfl
                        rotate_left
                        · simp only [Act.put, List.setIfInBounds_toArray, List.set_cons_zero, List.set_cons_succ, i64_w, i32_w]
                          rfl
                        refine one_ (i := 9) (N := some 77) #[true, true, true, true, true, true, true, true, true, true, false] rfl rfl (by kernel_rfl) (by decide) (fun K hK => ?_)
                        refine goes_ Try.func45 (by kernel_rfl) rfl #[.int .u64 y1, .int .u64 y0] (by rfl) rfl rfl (by simp only [List.map_toArray, List.map_cons, List.map_nil]; rfl) ?_
                        with_reducible refine (Less64.as y1 y0 _ lb ⟨LB.out⟩).mono ?_
                        rintro e w4 ⟨rfl, hbq⟩
                        refine ⟨_, rfl, ?_⟩
                        have mSR_ := Aside0.mk (SR.out.drew.below hbq)
                        clear SR
                        have SR := mSR_
                        clear mSR_
                        refine hK.out _ _ ⟨((hbq.cell (World.block_lt_of_cell? _ _ hHeld.1)).trans hHeld.1), ((hbq.cell (World.block_lt_of_cell? _ _ hHeld.2)).trans hHeld.2)⟩ (fun hHeld => ?_)
                        clear hK K
                        refine norm_ (a' := ?_) ?_ ?_
                        rotate_left
                        · show Act.put _ (some 77) _ = _
                          simp only [Act.put, List.setIfInBounds_toArray, List.set_cons_zero, List.set_cons_succ, i64_w, i32_w]
                          rfl
                        refine pure_ (i := 10) (N := some 78) (v := ?_) (a' := ?_) #[true, true, true, true, true, true, true, true, true, true, true] rfl rfl (by kernel_rfl) (fun _ _ _ h => h) (Or.inl ⟨by rfl, ?_⟩) ?_ ?_
                        rotate_left
                        · intro w'
                          go_simp
                          with_reducible rfl
                        rotate_left
                        · simp only [Act.put, List.setIfInBounds_toArray, List.set_cons_zero, List.set_cons_succ, i64_w, i32_w]
                          rfl
                        refine done_ (by kernel_rfl) ?_
                        have T_lb := LB
                        clear LB hbq C_y1 C_y0
                        cases lb
                        · have ST_ := EqP.mk (sd_stop j dj (.inr (by rw [← X_y1.out, ← X_y0.out]; exact T_lb.out.symm)))
                          go_wp2
                          go_meet
                          exact ⟨dj, ⟨by rw [IFP.eq, ← hsh.out, ST_.eq]⟩, HJ, SR⟩
                        · have GO_ := EqP.mk (sd_go j dj LE.out (by rw [← X_y1.out, ← X_y0.out]; exact T_lb.out.symm))
                          have C_y1 := Aside0.mk (show w4.drew.cell? ⟨g, jz.toNat, none⟩ = some (.int .u64 y1) by rw [P_jz.out.1, X_y1.out]; exact SR.out.drew.cell (j) (by rw [HJ.out]; exact P_jz.out.2))
                          have C_y0 := Aside0.mk (show w4.drew.cell? ⟨g, jm.toNat, none⟩ = some (.int .u64 y0) by rw [P_jm.out.1, X_y0.out]; exact SR.out.drew.cell (j - 1) (by rw [HJ.out]; exact P_jm.out.2))
                          have fz1_ := SR.out.frozen jz.toNat
                          have fz2_ := SR.out.frozen jm.toNat
                          have s2_ := SR.out.set jz.toNat (by rw [P_jz.out.1, HJ.out]; exact P_jz.out.2) y0
                          have f2_ := s2_.frozen jm.toNat
                          have c2_ := s2_.cell jm.toNat (by rw [Array.size_setIfInBounds, HJ.out, P_jm.out.1]; exact P_jm.out.2)
                          clear s2_
                          go_wp2
                          refine start_ (n := 18) (S := fun w' => w'.cell? ⟨g, jz.toNat, none⟩ = some (.int .u64 y1) ∧ w'.cell? ⟨g, jm.toNat, none⟩ = some (.int .u64 y0)) (ds := [15, 17]) #[false, false, false, false, false, false, false, false, false, false, false, false, false, false, false, false, false, false] (by kernel_rfl) rfl rfl ⟨C_y1.out, C_y0.out⟩ (fun hHeld => ?_)
                          refine pure_ (i := 0) (N := some 79) (v := ?_) (a' := ?_) #[true, false, false, false, false, false, false, false, false, false, false, false, false, false, false, false, false, false] rfl rfl (by kernel_rfl) (fun _ _ _ h => h) (Or.inl ⟨by rfl, ?_⟩) ?_ ?_
                          rotate_left
                          · intro w'
                            go_simp
                            with_reducible rfl
                          rotate_left
                          · simp only [Act.put, List.setIfInBounds_toArray, List.set_cons_zero, List.set_cons_succ, i64_w, i32_w]
                            rfl
                          refine pure_ (i := 1) (N := some 80) (v := ?_) (a' := ?_) #[true, true, false, false, false, false, false, false, false, false, false, false, false, false, false, false, false, false] rfl rfl (by kernel_rfl) (fun _ _ _ h => h) (Or.inl ⟨by rfl, ?_⟩) ?_ ?_
                          rotate_left
                          · intro w'
                            go_simp
                            with_reducible rfl
                          rotate_left
                          · simp only [Act.put, List.setIfInBounds_toArray, List.set_cons_zero, List.set_cons_succ, i64_w, i32_w]
                            rfl
                          refine pure_ (i := 2) (N := some 81) (v := ?_) (a' := ?_) #[true, true, true, false, false, false, false, false, false, false, false, false, false, false, false, false, false, false] rfl rfl (by kernel_rfl) (fun _ _ _ h => h) (Or.inl ⟨by rfl, ?_⟩) ?_ ?_
                          rotate_left
                          · intro w'
                            go_simp
                            with_reducible rfl
                          rotate_left
                          · simp only [Act.put, List.setIfInBounds_toArray, List.set_cons_zero, List.set_cons_succ, i64_w, i32_w]
                            rfl
                          refine pure_ (i := 3) (N := some 82) (v := ?_) (a' := ?_) #[true, true, true, true, false, false, false, false, false, false, false, false, false, false, false, false, false, false] rfl rfl (by kernel_rfl) (fun _ _ _ h => h) (Or.inl ⟨by rfl, ?_⟩) ?_ ?_
                          rotate_left
                          · intro w'
                            go_simp
                            with_reducible rfl
                          rotate_left
                          · simp only [Act.put, List.setIfInBounds_toArray, List.set_cons_zero, List.set_cons_succ, i64_w, i32_w]
                            rfl
                          refine pure_ (i := 4) (N := some 83) (v := ?_) (a' := ?_) #[true, true, true, true, true, false, false, false, false, false, false, false, false, false, false, false, false, false] rfl rfl (by kernel_rfl) (fun _ _ _ h => h) (Or.inl ⟨by rfl, ?_⟩) ?_ ?_
                          rotate_left
                          · intro w'
                            go_simp
                            with_reducible rfl
                          rotate_left
                          · simp only [Act.put, List.setIfInBounds_toArray, List.set_cons_zero, List.set_cons_succ, i64_w, i32_w]
                            rfl
                          refine pure_ (i := 5) (N := some 84) (v := ?_) (a' := ?_) #[true, true, true, true, true, true, false, false, false, false, false, false, false, false, false, false, false, false] rfl rfl (by kernel_rfl) (fun _ _ _ h => h) (Or.inl ⟨by rfl, ?_⟩) ?_ ?_
                          rotate_left
                          · intro w'
                            go_simp
                            with_reducible rfl
                          rotate_left
                          · simp only [Act.put, List.setIfInBounds_toArray, List.set_cons_zero, List.set_cons_succ, i64_w, i32_w]
                            rfl
                          refine pure_ (i := 6) (N := some 85) (v := ?_) (a' := ?_) #[true, true, true, true, true, true, true, false, false, false, false, false, false, false, false, false, false, false] rfl rfl (by kernel_rfl) (fun _ _ _ h => h) (Or.inl ⟨by rfl, ?_⟩) ?_ ?_
                          rotate_left
                          · intro w'
                            go_simp
                            with_reducible rfl
                          rotate_left
                          · simp only [Act.put, List.setIfInBounds_toArray, List.set_cons_zero, List.set_cons_succ, i64_w, i32_w]
                            rfl
                          refine pure_ (i := 7) (N := some 86) (v := ?_) (a' := ?_) #[true, true, true, true, true, true, true, true, false, false, false, false, false, false, false, false, false, false] rfl rfl (by kernel_rfl) (fun _ _ _ h => h) (Or.inl ⟨by rfl, ?_⟩) ?_ ?_
                          rotate_left
                          · intro w'
                            go_simp
                            with_reducible rfl
                          rotate_left
                          · simp only [Act.put, List.setIfInBounds_toArray, List.set_cons_zero, List.set_cons_succ, i64_w, i32_w]
                            rfl
                          refine pure_ (i := 8) (N := some 87) (v := ?_) (a' := ?_) #[true, true, true, true, true, true, true, true, true, false, false, false, false, false, false, false, false, false] rfl rfl (by kernel_rfl) (fun _ _ _ h => h) (Or.inl ⟨by rfl, ?_⟩) ?_ ?_
                          rotate_left
                          · intro w'
                            go_simp
                            with_reducible rfl
                          rotate_left
                          · simp only [Act.put, List.setIfInBounds_toArray, List.set_cons_zero, List.set_cons_succ, i64_w, i32_w]
                            rfl
                          refine pure_ (i := 10) (N := some 89) (v := ?_) (a' := ?_) #[true, true, true, true, true, true, true, true, true, false, true, false, false, false, false, false, false, false] rfl rfl (by kernel_rfl) (fun _ _ _ h => h) (Or.inl ⟨by rfl, ?_⟩) ?_ ?_
                          rotate_left
                          · intro w'
                            go_simp
                            with_reducible rfl
                          rotate_left
                          · simp only [Act.put, List.setIfInBounds_toArray, List.set_cons_zero, List.set_cons_succ, i64_w, i32_w]
                            rfl
                          refine pure_ (i := 11) (N := some 90) (v := ?_) (a' := ?_) #[true, true, true, true, true, true, true, true, true, false, true, true, false, false, false, false, false, false] rfl rfl (by kernel_rfl) (fun _ _ _ h => h) (Or.inl ⟨by rfl, ?_⟩) ?_ ?_
                          rotate_left
                          · intro w'
                            go_simp
                            with_reducible rfl
                          rotate_left
                          · simp only [Act.put, List.setIfInBounds_toArray, List.set_cons_zero, List.set_cons_succ, i64_w, i32_w]
                            rfl
                          refine pure_ (i := 12) (N := some 91) (v := ?_) (a' := ?_) #[true, true, true, true, true, true, true, true, true, false, true, true, true, false, false, false, false, false] rfl rfl (by kernel_rfl) (fun _ _ _ h => h) (Or.inl ⟨by rfl, ?_⟩) ?_ ?_
                          rotate_left
                          · intro w'
                            go_simp
                            with_reducible rfl
                          rotate_left
                          · simp only [Act.put, List.setIfInBounds_toArray, List.set_cons_zero, List.set_cons_succ, i64_w, i32_w]
                            rfl
                          refine take_ (i := 9) (N := some 88) (v := ?_) (a' := ?_) #[true, true, true, true, true, true, true, true, true, true, true, true, true, false, false, false, false, false] rfl rfl (by kernel_rfl) (fun _ _ _ h => h) (Or.inl ⟨by rfl, ?_⟩) hHeld ?_ ?_
                          rotate_left
                          · rintro w' ⟨s0, s1⟩
                            go_simp
                            with_reducible rfl
                          rotate_left
                          · simp only [Act.put, List.setIfInBounds_toArray, List.set_cons_zero, List.set_cons_succ, i64_w, i32_w]
                            rfl
                          refine take_ (i := 13) (N := some 92) (v := ?_) (a' := ?_) #[true, true, true, true, true, true, true, true, true, true, true, true, true, true, false, false, false, false] rfl rfl (by kernel_rfl) (fun _ _ _ h => h) (Or.inl ⟨by rfl, ?_⟩) hHeld ?_ ?_
                          rotate_left
                          · rintro w' ⟨s0, s1⟩
                            go_simp
                            with_reducible rfl
                          rotate_left
                          · simp only [Act.put, List.setIfInBounds_toArray, List.set_cons_zero, List.set_cons_succ, i64_w, i32_w]
                            rfl
                          refine pure_ (i := 14) (N := some 93) (v := ?_) (a' := ?_) #[true, true, true, true, true, true, true, true, true, true, true, true, true, true, true, false, false, false] rfl rfl (by kernel_rfl) (fun _ _ _ h => h) (Or.inl ⟨by rfl, ?_⟩) ?_ ?_
                          rotate_left
                          · intro w'
                            go_simp
                            with_reducible rfl
                          rotate_left
                          · simp only [Act.put, List.setIfInBounds_toArray, List.set_cons_zero, List.set_cons_succ, i64_w, i32_w]
                            rfl
                          refine last_ (i := 15) (N := none) #[true, true, true, true, true, true, true, true, true, true, true, true, true, true, true, true, false, false] rfl rfl (by kernel_rfl) (by decide) (fun K hK => ?_)
                          refine skip_ (w1 := ?_) (by rfl) rfl ?_ ?_
                          rotate_left
                          · go_simp
                            rfl
                          refine hK.out _ _ ?_
                          clear hK K
                          refine pure_ (i := 16) (N := some 94) (v := ?_) (a' := ?_) #[true, true, true, true, true, true, true, true, true, true, true, true, true, true, true, true, true, false] rfl rfl (by kernel_rfl) (fun _ _ _ h => h) (Or.inl ⟨by rfl, ?_⟩) ?_ ?_
                          rotate_left
                          · intro w'
                            go_simp
                            with_reducible rfl
                          rotate_left
                          · simp only [Act.put, List.setIfInBounds_toArray, List.set_cons_zero, List.set_cons_succ, i64_w, i32_w]
                            rfl
                          refine last_ (i := 17) (N := none) #[true, true, true, true, true, true, true, true, true, true, true, true, true, true, true, true, true, true] rfl rfl (by kernel_rfl) (by decide) (fun K hK => ?_)
                          refine skip_ (w1 := ?_) (by rfl) rfl ?_ ?_
                          rotate_left
                          · go_simp
                            rfl
                          refine hK.out _ _ ?_
                          clear hK K
                          refine done_ (by kernel_rfl) ?_
                          have SW_ := Aside0.mk (show Srt w g tl (swp dj (j) (j - 1)) ((w4.setCell ⟨g, jz.toNat, none⟩ (.int .u64 y0)).setCell ⟨g, jm.toNat, none⟩ (.int .u64 y1)).drew by rw [P_jz.out.1, P_jm.out.1, X_y1.out, X_y0.out]; exact (SR.out.swp (j) (j - 1) (by rw [HJ.out]; exact P_jz.out.2) (by rw [HJ.out]; exact P_jm.out.2)).drew)
                          clear SR fz1_ fz2_ f2_ c2_ C_y1 C_y0
                          have SR := SW_
                          clear SW_
                          go_wp2
                          (try simp only [wj_, wp_])
                          go_roundg k2
                          case measure => exact Nat.lt_succ_self _
                          case rel => exact ⟨_, j - 1, swp dj j (j - 1), rfl, JM, ⟨by have := hj2.out; have := LE.out; omega⟩, ⟨by have := hjr.out; have := LE.out; omega⟩, ⟨GO_.eq.symm.trans hsh.out⟩, ⟨(swp_size _ _ _).trans HJ.out⟩, SR⟩
                      · have c3_ : decide (jz ≥ 1) = false := decide_eq_false (by have := hjz.out; have := hbz.out; omega)
                        have ST_ := EqP.mk (sd_stop j dj (.inl hle))
                        clear hle
                        go_wp2
                        go_meet
                        exact ⟨dj, ⟨by rw [IFP.eq, ← hsh.out, ST_.eq]⟩, HJ, SR⟩
                · rename_i hc_
                  have hc2 : ¬ 2 ≤ k - a := by have := DF.out; omega
                  have IFN := EqP.mk (show (if 2 ≤ k - a then shiftDown ltInt (k - 1) d1 else d1) = d1 from if_neg hc2)
                  clear hc2 hc_
                  go_meet
                  exact ⟨d1, ⟨IFN.eq⟩, HD1, SR⟩
              case rest =>
                clear SR
                obtain ⟨d2, D2, HD2, SR⟩ := hcut
                go_wp2
                · rename_i hc_
                  have hc2 : 2 ≤ b - k := by have := DG.out; omega
                  have IFP := EqP.mk (show (if 2 ≤ b - k then shiftUp ltInt b (k + 1) d2 else d2) = shiftUp ltInt b (k + 1) d2 from if_pos hc2)
                  clear hc2 hc_
                  (try simp only [wk_])
                  go_loopg [10] (d.size + 2) (fun kq v_ w' => ∃ (jz : Int) (j : Nat) (dj : Array Int), v_ = .int .i64 jz ∧ Aside0 (jz = j) ∧ Aside0 (b - j < kq) ∧ Aside0 (k + 1 ≤ j ∧ j ≤ b) ∧ Aside0 (shiftUp ltInt b j dj = shiftUp ltInt b (k + 1) d2) ∧ Aside0 (dj.size = d.size) ∧ Aside0 (Srt w g tl dj w'))
                  case atStart => exact ⟨_, (k + 1), d2, rfl, KP, ⟨by have := hbd.out; have := KB.out; omega⟩, ⟨by have := K1.out; have := KB.out; have := hbd.out; omega⟩, ⟨rfl⟩, HD2, SR⟩
                  case round =>
                    clear SR
                    obtain ⟨jz, j, dj, rfl, hjz, hj2, hjr, hsh, HJ, SR⟩ := hrel
                    cases gk with
                    | zero => exact absurd hj2.out (by omega)
                    | succ k2 =>
                      by_cases hle : j < b
                      · have LE := Aside0.mk hle
                        have c3_ : decide (jz < bz) = true := decide_eq_true (by have := hjz.out; have := hbz.out; omega)
                        have h1_ := hjz.out
                        have h2_ := hjr.out
                        have h4_ := hbd.out
                        have h5_ := hsz.out
                        have h6_ := K1.out
                        obtain ⟨jm, hjm⟩ : ∃ jm : Int, jm = jz - 1 := ⟨_, rfl⟩
                        have wj_ : wrap64 (jz - 1) = jm := by unfold wrap64; omega
                        have wp_ : wrap64 (jz + 1) = jz + 1 := by unfold wrap64; omega
                        have JM := Aside0.mk (show jm = ((j - 1 : Nat) : Int) by omega)
                        have P_jz := Aside0.mk (⟨by omega, by omega⟩ : jz.toNat = j ∧ j < d.size)
                        have n1_jz := eq_true (show 0 ≤ jz by omega)
                        have n2_jz := eq_true (show jz < (d.size : Int) by omega)
                        have P_jm := Aside0.mk (⟨by omega, by omega⟩ : jm.toNat = j - 1 ∧ j - 1 < d.size)
                        have n1_jm := eq_true (show 0 ≤ jm by omega)
                        have n2_jm := eq_true (show jm < (d.size : Int) by omega)
                        clear h1_ h2_ h4_ h5_ h6_ hle hjm
                        obtain ⟨y1, hy1⟩ : ∃ y1, y1 = dj[j]! := ⟨_, rfl⟩
                        have X_y1 := Aside0.mk hy1
                        clear hy1
                        have C_y1 := Aside0.mk (show wr.drew.cell? ⟨g, jz.toNat, none⟩ = some (.int .u64 y1) by rw [P_jz.out.1, X_y1.out]; exact SR.out.drew.cell (j) (by rw [HJ.out]; exact P_jz.out.2))
                        obtain ⟨y0, hy0⟩ : ∃ y0, y0 = dj[j - 1]! := ⟨_, rfl⟩
                        have X_y0 := Aside0.mk hy0
                        clear hy0
                        have C_y0 := Aside0.mk (show wr.drew.cell? ⟨g, jm.toNat, none⟩ = some (.int .u64 y0) by rw [P_jm.out.1, X_y0.out]; exact SR.out.drew.cell (j - 1) (by rw [HJ.out]; exact P_jm.out.2))
                        obtain ⟨lb, hlb⟩ : ∃ lb, lb = ltInt y1 y0 := ⟨_, rfl⟩
                        have LB := Aside0.mk hlb
                        clear hlb
                        go_wp2
                        refine start_ (n := 11) (S := fun w' => w'.cell? ⟨g, jz.toNat, none⟩ = some (.int .u64 y1) ∧ w'.cell? ⟨g, jm.toNat, none⟩ = some (.int .u64 y0)) (ds := []) #[false, false, false, false, false, false, false, false, false, false, false] (by kernel_rfl) rfl rfl ⟨C_y1.out, C_y0.out⟩ (fun hHeld => ?_)
                        refine pure_ (i := 0) (N := some 106) (v := ?_) (a' := ?_) #[true, false, false, false, false, false, false, false, false, false, false] rfl rfl (by kernel_rfl) (fun _ _ _ h => h) (Or.inl ⟨by rfl, ?_⟩) ?_ ?_
                        rotate_left
                        · intro w'
                          go_simp
                          with_reducible rfl
                        rotate_left
                        · simp only [Act.put, List.setIfInBounds_toArray, List.set_cons_zero, List.set_cons_succ, i64_w, i32_w]
                          rfl
                        refine pure_ (i := 1) (N := some 107) (v := ?_) (a' := ?_) #[true, true, false, false, false, false, false, false, false, false, false] rfl rfl (by kernel_rfl) (fun _ _ _ h => h) (Or.inl ⟨by rfl, ?_⟩) ?_ ?_
                        rotate_left
                        · intro w'
                          go_simp
                          with_reducible rfl
                        rotate_left
                        · simp only [Act.put, List.setIfInBounds_toArray, List.set_cons_zero, List.set_cons_succ, i64_w, i32_w]
                          rfl
                        refine pure_ (i := 2) (N := some 108) (v := ?_) (a' := ?_) #[true, true, true, false, false, false, false, false, false, false, false] rfl rfl (by kernel_rfl) (fun _ _ _ h => h) (Or.inl ⟨by rfl, ?_⟩) ?_ ?_
                        rotate_left
                        · intro w'
                          go_simp
                          with_reducible rfl
                        rotate_left
                        · simp only [Act.put, List.setIfInBounds_toArray, List.set_cons_zero, List.set_cons_succ, i64_w, i32_w]
                          rfl
                        refine pure_ (i := 4) (N := some 110) (v := ?_) (a' := ?_) #[true, true, true, false, true, false, false, false, false, false, false] rfl rfl (by kernel_rfl) (fun _ _ _ h => h) (Or.inl ⟨by rfl, ?_⟩) ?_ ?_
                        rotate_left
                        · intro w'
                          go_simp
                          with_reducible rfl
                        rotate_left
                        · simp only [Act.put, List.setIfInBounds_toArray, List.set_cons_zero, List.set_cons_succ, i64_w, i32_w]
                          rfl
                        refine pure_ (i := 5) (N := some 111) (v := ?_) (a' := ?_) #[true, true, true, false, true, true, false, false, false, false, false] rfl rfl (by kernel_rfl) (fun _ _ _ h => h) (Or.inl ⟨by rfl, ?_⟩) ?_ ?_
                        rotate_left
                        · intro w'
                          go_simp
                          with_reducible rfl
                        rotate_left
                        · simp only [Act.put, List.setIfInBounds_toArray, List.set_cons_zero, List.set_cons_succ, i64_w, i32_w]
                          rfl
                        refine pure_ (i := 6) (N := some 112) (v := ?_) (a' := ?_) #[true, true, true, false, true, true, true, false, false, false, false] rfl rfl (by kernel_rfl) (fun _ _ _ h => h) (Or.inl ⟨by rfl, ?_⟩) ?_ ?_
                        rotate_left
                        · intro w'
                          go_simp
                          with_reducible rfl
                        rotate_left
                        · simp only [Act.put, List.setIfInBounds_toArray, List.set_cons_zero, List.set_cons_succ, i64_w, i32_w]
                          rfl
                        refine pure_ (i := 7) (N := some 113) (v := ?_) (a' := ?_) #[true, true, true, false, true, true, true, true, false, false, false] rfl rfl (by kernel_rfl) (fun _ _ _ h => h) (Or.inl ⟨by rfl, ?_⟩) ?_ ?_
                        rotate_left
                        · intro w'
                          go_simp
                          with_reducible rfl
                        rotate_left
                        · simp only [Act.put, List.setIfInBounds_toArray, List.set_cons_zero, List.set_cons_succ, i64_w, i32_w]
                          rfl
                        refine take_ (i := 3) (N := some 109) (v := ?_) (a' := ?_) #[true, true, true, true, true, true, true, true, false, false, false] rfl rfl (by kernel_rfl) (fun _ _ _ h => h) (Or.inl ⟨by rfl, ?_⟩) hHeld ?_ ?_
                        rotate_left
                        · rintro w' ⟨s0, s1⟩
                          go_simp
                          with_reducible rfl
                        rotate_left
                        · simp only [Act.put, List.setIfInBounds_toArray, List.set_cons_zero, List.set_cons_succ, i64_w, i32_w]
                          rfl
                        refine take_ (i := 8) (N := some 114) (v := ?_) (a' := ?_) #[true, true, true, true, true, true, true, true, true, false, false] rfl rfl (by kernel_rfl) (fun _ _ _ h => h) (Or.inl ⟨by rfl, ?_⟩) hHeld ?_ ?_
                        rotate_left
                        · rintro w' ⟨s0, s1⟩
                          go_simp
                          with_reducible rfl
                        rotate_left
                        · simp only [Act.put, List.setIfInBounds_toArray, List.set_cons_zero, List.set_cons_succ, i64_w, i32_w]
                          rfl
                        refine one_ (i := 9) (N := some 115) #[true, true, true, true, true, true, true, true, true, true, false] rfl rfl (by kernel_rfl) (by decide) (fun K hK => ?_)
                        refine goes_ Try.func45 (by kernel_rfl) rfl #[.int .u64 y1, .int .u64 y0] (by rfl) rfl rfl (by simp only [List.map_toArray, List.map_cons, List.map_nil]; rfl) ?_
                        with_reducible refine (Less64.as y1 y0 _ lb ⟨LB.out⟩).mono ?_
                        rintro e w4 ⟨rfl, hbq⟩
                        refine ⟨_, rfl, ?_⟩
                        have mSR_ := Aside0.mk (SR.out.drew.below hbq)
                        clear SR
                        have SR := mSR_
                        clear mSR_
                        refine hK.out _ _ ⟨((hbq.cell (World.block_lt_of_cell? _ _ hHeld.1)).trans hHeld.1), ((hbq.cell (World.block_lt_of_cell? _ _ hHeld.2)).trans hHeld.2)⟩ (fun hHeld => ?_)
                        clear hK K
                        refine norm_ (a' := ?_) ?_ ?_
                        rotate_left
                        · show Act.put _ (some 115) _ = _
                          simp only [Act.put, List.setIfInBounds_toArray, List.set_cons_zero, List.set_cons_succ, i64_w, i32_w]
                          rfl
                        refine pure_ (i := 10) (N := some 116) (v := ?_) (a' := ?_) #[true, true, true, true, true, true, true, true, true, true, true] rfl rfl (by kernel_rfl) (fun _ _ _ h => h) (Or.inl ⟨by rfl, ?_⟩) ?_ ?_
                        rotate_left
                        · intro w'
                          go_simp
                          with_reducible rfl
                        rotate_left
                        · simp only [Act.put, List.setIfInBounds_toArray, List.set_cons_zero, List.set_cons_succ, i64_w, i32_w]
                          rfl
                        refine done_ (by kernel_rfl) ?_
                        have T_lb := LB
                        clear LB hbq C_y1 C_y0
                        cases lb
                        · have ST_ := EqP.mk (su_stop b j dj (.inr (by rw [← X_y1.out, ← X_y0.out]; exact T_lb.out.symm)))
                          go_wp2
                          go_roundg k1
                          case measure => exact Nat.lt_succ_self _
                          case rel => exact ⟨_, _, k, s + 1, n - 1, dj, rfl, rfl, hkz, ⟨by have := hy.out; omega⟩, ⟨by have := hk.out; have := NN.out; omega⟩, ⟨by have := K1.out; have := KB.out; omega⟩, ⟨by rw [← PG.out d1 d2 dj D1.eq D2.out (by rw [IFP.eq, ← hsh.out, ST_.eq]), ← NN.out]; exact hpi.out⟩, HJ, SR⟩
                        · have GO_ := EqP.mk (su_go b j dj LE.out (by rw [← X_y1.out, ← X_y0.out]; exact T_lb.out.symm))
                          have C_y1 := Aside0.mk (show w4.drew.cell? ⟨g, jz.toNat, none⟩ = some (.int .u64 y1) by rw [P_jz.out.1, X_y1.out]; exact SR.out.drew.cell (j) (by rw [HJ.out]; exact P_jz.out.2))
                          have C_y0 := Aside0.mk (show w4.drew.cell? ⟨g, jm.toNat, none⟩ = some (.int .u64 y0) by rw [P_jm.out.1, X_y0.out]; exact SR.out.drew.cell (j - 1) (by rw [HJ.out]; exact P_jm.out.2))
                          have fz1_ := SR.out.frozen jz.toNat
                          have fz2_ := SR.out.frozen jm.toNat
                          have s2_ := SR.out.set jz.toNat (by rw [P_jz.out.1, HJ.out]; exact P_jz.out.2) y0
                          have f2_ := s2_.frozen jm.toNat
                          have c2_ := s2_.cell jm.toNat (by rw [Array.size_setIfInBounds, HJ.out, P_jm.out.1]; exact P_jm.out.2)
                          clear s2_
                          go_wp2
                          refine start_ (n := 18) (S := fun w' => w'.cell? ⟨g, jz.toNat, none⟩ = some (.int .u64 y1) ∧ w'.cell? ⟨g, jm.toNat, none⟩ = some (.int .u64 y0)) (ds := [15, 17]) #[false, false, false, false, false, false, false, false, false, false, false, false, false, false, false, false, false, false] (by kernel_rfl) rfl rfl ⟨C_y1.out, C_y0.out⟩ (fun hHeld => ?_)
                          refine pure_ (i := 0) (N := some 117) (v := ?_) (a' := ?_) #[true, false, false, false, false, false, false, false, false, false, false, false, false, false, false, false, false, false] rfl rfl (by kernel_rfl) (fun _ _ _ h => h) (Or.inl ⟨by rfl, ?_⟩) ?_ ?_
                          rotate_left
                          · intro w'
                            go_simp
                            with_reducible rfl
                          rotate_left
                          · simp only [Act.put, List.setIfInBounds_toArray, List.set_cons_zero, List.set_cons_succ, i64_w, i32_w]
                            rfl
                          refine pure_ (i := 1) (N := some 118) (v := ?_) (a' := ?_) #[true, true, false, false, false, false, false, false, false, false, false, false, false, false, false, false, false, false] rfl rfl (by kernel_rfl) (fun _ _ _ h => h) (Or.inl ⟨by rfl, ?_⟩) ?_ ?_
                          rotate_left
                          · intro w'
                            go_simp
                            with_reducible rfl
                          rotate_left
                          · simp only [Act.put, List.setIfInBounds_toArray, List.set_cons_zero, List.set_cons_succ, i64_w, i32_w]
                            rfl
                          refine pure_ (i := 2) (N := some 119) (v := ?_) (a' := ?_) #[true, true, true, false, false, false, false, false, false, false, false, false, false, false, false, false, false, false] rfl rfl (by kernel_rfl) (fun _ _ _ h => h) (Or.inl ⟨by rfl, ?_⟩) ?_ ?_
                          rotate_left
                          · intro w'
                            go_simp
                            with_reducible rfl
                          rotate_left
                          · simp only [Act.put, List.setIfInBounds_toArray, List.set_cons_zero, List.set_cons_succ, i64_w, i32_w]
                            rfl
                          refine pure_ (i := 3) (N := some 120) (v := ?_) (a' := ?_) #[true, true, true, true, false, false, false, false, false, false, false, false, false, false, false, false, false, false] rfl rfl (by kernel_rfl) (fun _ _ _ h => h) (Or.inl ⟨by rfl, ?_⟩) ?_ ?_
                          rotate_left
                          · intro w'
                            go_simp
                            with_reducible rfl
                          rotate_left
                          · simp only [Act.put, List.setIfInBounds_toArray, List.set_cons_zero, List.set_cons_succ, i64_w, i32_w]
                            rfl
                          refine pure_ (i := 4) (N := some 121) (v := ?_) (a' := ?_) #[true, true, true, true, true, false, false, false, false, false, false, false, false, false, false, false, false, false] rfl rfl (by kernel_rfl) (fun _ _ _ h => h) (Or.inl ⟨by rfl, ?_⟩) ?_ ?_
                          rotate_left
                          · intro w'
                            go_simp
                            with_reducible rfl
                          rotate_left
                          · simp only [Act.put, List.setIfInBounds_toArray, List.set_cons_zero, List.set_cons_succ, i64_w, i32_w]
                            rfl
                          refine pure_ (i := 5) (N := some 122) (v := ?_) (a' := ?_) #[true, true, true, true, true, true, false, false, false, false, false, false, false, false, false, false, false, false] rfl rfl (by kernel_rfl) (fun _ _ _ h => h) (Or.inl ⟨by rfl, ?_⟩) ?_ ?_
                          rotate_left
                          · intro w'
                            go_simp
                            with_reducible rfl
                          rotate_left
                          · simp only [Act.put, List.setIfInBounds_toArray, List.set_cons_zero, List.set_cons_succ, i64_w, i32_w]
                            rfl
                          refine pure_ (i := 6) (N := some 123) (v := ?_) (a' := ?_) #[true, true, true, true, true, true, true, false, false, false, false, false, false, false, false, false, false, false] rfl rfl (by kernel_rfl) (fun _ _ _ h => h) (Or.inl ⟨by rfl, ?_⟩) ?_ ?_
                          rotate_left
                          · intro w'
                            go_simp
                            with_reducible rfl
                          rotate_left
                          · simp only [Act.put, List.setIfInBounds_toArray, List.set_cons_zero, List.set_cons_succ, i64_w, i32_w]
                            rfl
                          refine pure_ (i := 7) (N := some 124) (v := ?_) (a' := ?_) #[true, true, true, true, true, true, true, true, false, false, false, false, false, false, false, false, false, false] rfl rfl (by kernel_rfl) (fun _ _ _ h => h) (Or.inl ⟨by rfl, ?_⟩) ?_ ?_
                          rotate_left
                          · intro w'
                            go_simp
                            with_reducible rfl
                          rotate_left
                          · simp only [Act.put, List.setIfInBounds_toArray, List.set_cons_zero, List.set_cons_succ, i64_w, i32_w]
                            rfl
                          refine pure_ (i := 8) (N := some 125) (v := ?_) (a' := ?_) #[true, true, true, true, true, true, true, true, true, false, false, false, false, false, false, false, false, false] rfl rfl (by kernel_rfl) (fun _ _ _ h => h) (Or.inl ⟨by rfl, ?_⟩) ?_ ?_
                          rotate_left
                          · intro w'
                            go_simp
                            with_reducible rfl
                          rotate_left
                          · simp only [Act.put, List.setIfInBounds_toArray, List.set_cons_zero, List.set_cons_succ, i64_w, i32_w]
                            rfl
                          refine pure_ (i := 10) (N := some 127) (v := ?_) (a' := ?_) #[true, true, true, true, true, true, true, true, true, false, true, false, false, false, false, false, false, false] rfl rfl (by kernel_rfl) (fun _ _ _ h => h) (Or.inl ⟨by rfl, ?_⟩) ?_ ?_
                          rotate_left
                          · intro w'
                            go_simp
                            with_reducible rfl
                          rotate_left
                          · simp only [Act.put, List.setIfInBounds_toArray, List.set_cons_zero, List.set_cons_succ, i64_w, i32_w]
                            rfl
                          refine pure_ (i := 11) (N := some 128) (v := ?_) (a' := ?_) #[true, true, true, true, true, true, true, true, true, false, true, true, false, false, false, false, false, false] rfl rfl (by kernel_rfl) (fun _ _ _ h => h) (Or.inl ⟨by rfl, ?_⟩) ?_ ?_
                          rotate_left
                          · intro w'
                            go_simp
                            with_reducible rfl
                          rotate_left
                          · simp only [Act.put, List.setIfInBounds_toArray, List.set_cons_zero, List.set_cons_succ, i64_w, i32_w]
                            rfl
                          refine pure_ (i := 12) (N := some 129) (v := ?_) (a' := ?_) #[true, true, true, true, true, true, true, true, true, false, true, true, true, false, false, false, false, false] rfl rfl (by kernel_rfl) (fun _ _ _ h => h) (Or.inl ⟨by rfl, ?_⟩) ?_ ?_
                          rotate_left
                          · intro w'
                            go_simp
                            with_reducible rfl
                          rotate_left
                          · simp only [Act.put, List.setIfInBounds_toArray, List.set_cons_zero, List.set_cons_succ, i64_w, i32_w]
                            rfl
                          refine take_ (i := 9) (N := some 126) (v := ?_) (a' := ?_) #[true, true, true, true, true, true, true, true, true, true, true, true, true, false, false, false, false, false] rfl rfl (by kernel_rfl) (fun _ _ _ h => h) (Or.inl ⟨by rfl, ?_⟩) hHeld ?_ ?_
                          rotate_left
                          · rintro w' ⟨s0, s1⟩
                            go_simp
                            with_reducible rfl
                          rotate_left
                          · simp only [Act.put, List.setIfInBounds_toArray, List.set_cons_zero, List.set_cons_succ, i64_w, i32_w]
                            rfl
                          refine take_ (i := 13) (N := some 130) (v := ?_) (a' := ?_) #[true, true, true, true, true, true, true, true, true, true, true, true, true, true, false, false, false, false] rfl rfl (by kernel_rfl) (fun _ _ _ h => h) (Or.inl ⟨by rfl, ?_⟩) hHeld ?_ ?_
                          rotate_left
                          · rintro w' ⟨s0, s1⟩
                            go_simp
                            with_reducible rfl
                          rotate_left
                          · simp only [Act.put, List.setIfInBounds_toArray, List.set_cons_zero, List.set_cons_succ, i64_w, i32_w]
                            rfl
                          refine pure_ (i := 14) (N := some 131) (v := ?_) (a' := ?_) #[true, true, true, true, true, true, true, true, true, true, true, true, true, true, true, false, false, false] rfl rfl (by kernel_rfl) (fun _ _ _ h => h) (Or.inl ⟨by rfl, ?_⟩) ?_ ?_
                          rotate_left
                          · intro w'
                            go_simp
                            with_reducible rfl
                          rotate_left
                          · simp only [Act.put, List.setIfInBounds_toArray, List.set_cons_zero, List.set_cons_succ, i64_w, i32_w]
                            rfl
                          refine last_ (i := 15) (N := none) #[true, true, true, true, true, true, true, true, true, true, true, true, true, true, true, true, false, false] rfl rfl (by kernel_rfl) (by decide) (fun K hK => ?_)
                          refine skip_ (w1 := ?_) (by rfl) rfl ?_ ?_
                          rotate_left
                          · go_simp
                            rfl
                          refine hK.out _ _ ?_
                          clear hK K
                          refine pure_ (i := 16) (N := some 132) (v := ?_) (a' := ?_) #[true, true, true, true, true, true, true, true, true, true, true, true, true, true, true, true, true, false] rfl rfl (by kernel_rfl) (fun _ _ _ h => h) (Or.inl ⟨by rfl, ?_⟩) ?_ ?_
                          rotate_left
                          · intro w'
                            go_simp
                            with_reducible rfl
                          rotate_left
                          · simp only [Act.put, List.setIfInBounds_toArray, List.set_cons_zero, List.set_cons_succ, i64_w, i32_w]
                            rfl
                          refine last_ (i := 17) (N := none) #[true, true, true, true, true, true, true, true, true, true, true, true, true, true, true, true, true, true] rfl rfl (by kernel_rfl) (by decide) (fun K hK => ?_)
                          refine skip_ (w1 := ?_) (by rfl) rfl ?_ ?_
                          rotate_left
                          · go_simp
                            rfl
                          refine hK.out _ _ ?_
                          clear hK K
                          refine done_ (by kernel_rfl) ?_
                          have SW_ := Aside0.mk (show Srt w g tl (swp dj (j) (j - 1)) ((w4.setCell ⟨g, jz.toNat, none⟩ (.int .u64 y0)).setCell ⟨g, jm.toNat, none⟩ (.int .u64 y1)).drew by rw [P_jz.out.1, P_jm.out.1, X_y1.out, X_y0.out]; exact (SR.out.swp (j) (j - 1) (by rw [HJ.out]; exact P_jz.out.2) (by rw [HJ.out]; exact P_jm.out.2)).drew)
                          clear SR fz1_ fz2_ f2_ c2_ C_y1 C_y0
                          have SR := SW_
                          clear SW_
                          go_wp2
                          (try simp only [wj_, wp_])
                          go_roundg k2
                          case measure => exact Nat.lt_succ_self _
                          case rel => exact ⟨_, j + 1, swp dj j (j - 1), rfl, ⟨by have := hjz.out; omega⟩, ⟨by have := hj2.out; have := LE.out; omega⟩, ⟨by have := hjr.out; have := LE.out; omega⟩, ⟨GO_.eq.symm.trans hsh.out⟩, ⟨(swp_size _ _ _).trans HJ.out⟩, SR⟩
                      · have c3_ : decide (jz < bz) = false := decide_eq_false (by have := hjz.out; have := hbz.out; omega)
                        have ST_ := EqP.mk (su_stop b j dj (.inl hle))
                        clear hle
                        go_wp2
                        go_roundg k1
                        case measure => exact Nat.lt_succ_self _
                        case rel => exact ⟨_, _, k, s + 1, n - 1, dj, rfl, rfl, hkz, ⟨by have := hy.out; omega⟩, ⟨by have := hk.out; have := NN.out; omega⟩, ⟨by have := K1.out; have := KB.out; omega⟩, ⟨by rw [← PG.out d1 d2 dj D1.eq D2.out (by rw [IFP.eq, ← hsh.out, ST_.eq]), ← NN.out]; exact hpi.out⟩, HJ, SR⟩
                · rename_i hc_
                  have hc2 : ¬ 2 ≤ b - k := by have := DG.out; omega
                  have IFN := EqP.mk (show (if 2 ≤ b - k then shiftUp ltInt b (k + 1) d2 else d2) = d2 from if_neg hc2)
                  clear hc2 hc_
                  go_roundg k1
                  case measure => exact Nat.lt_succ_self _
                  case rel => exact ⟨_, _, k, s + 1, n - 1, d2, rfl, rfl, hkz, ⟨by have := hy.out; omega⟩, ⟨by have := hk.out; have := NN.out; omega⟩, ⟨by have := K1.out; have := KB.out; omega⟩, ⟨by rw [← PG.out d1 d2 d2 D1.eq D2.out (IFN.eq), ← NN.out]; exact hpi.out⟩, HD2, SR⟩
      · have N0 : n = 0 := by have := hk.out; omega
        subst N0
        clear hs5
        have cnd : decide (y < 5) = false := decide_eq_false (by have := hy.out; have := hk.out; omega)
        have PE := EqP.mk (show partialInsertionSort ltInt d a b = (dc, false) by rw [← hpi.out]; rfl)
        go_wp2
        go_ret
        exact ⟨by rw [PE.eq]; rfl, by rw [PE.eq]; exact HD.out, by rw [PE.eq]; exact SR.out⟩
end Go.Proofs.Ytdhiljimmijghaa.FAll
