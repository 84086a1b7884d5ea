/-
  slices.heapSortOrdered at []uint64: the library text computes heapSort.
-/
import Derived.Test.YtdhiljimmijghaaSh
namespace Go.Proofs.Ytdhiljimmijghaa.FAll
open Go.RowKit Go.Sort Go.Proofs.YtdhiljimmijghaaW.PrintWords Go.Proofs.YtdhiljimmijghaaW.PrintLast Go.Proofs.YtdhiljimmijghaaW.PrintMore
set_option linter.unusedVariables false
set_option linter.unusedSimpArgs false
set_option maxHeartbeats 16000000 in
set_option maxRecDepth 100000 in
theorem heapSort64.calls (w : World) (g cap : Nat) (tl : List Value) (d : Array Int) (a b : Nat) (az bz : Int) (haz : Aside0 (az = a)) (hbz : Aside0 (bz = b)) (hR : Aside0 (Srt w g tl d w)) (hbd : Aside0 (b ≤ d.size)) (hab : Aside0 (a < b)) (hsz : Aside0 (d.size ≤ 1152921504606846976)) :
    Calls Try.prog 40 #[.slice (some ⟨g, 0, none⟩) d.size cap, .int .i64 az, .int .i64 bz] w fun e w' => e = .returned (.tuple #[]) ∧ Srt w g tl (heapSort ltInt d a b) w' := by
  obtain ⟨hz, hhz⟩ : ∃ hz : Int, hz = bz - az := ⟨_, rfl⟩
  have HHZ := Aside0.mk (show hz = ((b - a : Nat) : Int) by have := haz.out; have := hbz.out; have := hab.out; omega)
  have wh : wrap64 (bz - az) = hz := by have := HHZ.out; have := hsz.out; have := hbd.out; unfold wrap64; omega
  obtain ⟨h1, hh1⟩ : ∃ h1 : Int, h1 = hz - 1 := ⟨_, rfl⟩
  have H1 := Aside0.mk (show h1 = ((b - a - 1 : Nat) : Int) by have := HHZ.out; have := hab.out; omega)
  have w1_ : wrap64 (hz - 1) = h1 := by have := H1.out; have := hsz.out; have := hbd.out; unfold wrap64; omega
  obtain ⟨iz, hiz⟩ : ∃ iz : Int, iz = (((b - a - 1) / 2 : Nat) : Int) := ⟨_, rfl⟩
  have IZ := Aside0.mk hiz
  have t1_ : Int.tdiv h1 2 = iz := by rw [H1.out, hiz]; rfl
  have t2_ : wrap64 iz = iz := by have := hsz.out; have := hbd.out; unfold wrap64; omega
  have FB := Aside0.mk (show a + (b - a) ≤ d.size by have := hab.out; have := hbd.out; omega)
  clear hhz hh1 hiz
  go_enter Try.func40, Try.ntmps40
  go_wp2
  simp only [wh, w1_, t1_, t2_]
  go_loopg [9] (b - a + 2) (fun kq v9 w' => ∃ (z : Int) (k : Nat) (dc : Array Int), v9 = .int .i64 z ∧ Aside0 (z = (k : Int) - 1) ∧ Aside0 (k < kq ∧ k ≤ b - a) ∧ Aside0 (heapBuild ltInt (b - a) a k dc = heapBuild ltInt (b - a) a ((b - a - 1) / 2 + 1) d) ∧ Aside0 (dc.size = d.size) ∧ Aside0 (Srt w g tl dc w'))
  case atStart => exact ⟨_, (b - a - 1) / 2 + 1, d, rfl, ⟨by have := IZ.out; omega⟩, ⟨by have := hab.out; omega, by have := hab.out; omega⟩, ⟨rfl⟩, ⟨rfl⟩, hR⟩
  case round =>
    obtain ⟨z, k, dc, rfl, hz0, hk, hbu, hs, SR⟩ := hrel
    cases gk with
    | zero => exact absurd hk.out.1 (by omega)
    | succ k1 =>
      cases k with
      | succ k =>
        have cnd : decide (z ≥ 0) = true := decide_eq_true (by have := hz0.out; omega)
        have ZK := Aside0.mk (show z = (k : Int) by have := hz0.out; omega)
        have LB_ := Aside0.mk (show k ≤ d.size by have := hk.out.2; have := FB.out; omega)
        have wz : wrap64 (z - 1) = z - 1 := by have := ZK.out; have := LB_.out; have := hsz.out; unfold wrap64; omega
        go_wp2_with (first | (go_at_call 51; have h_ := siftDown64.calls _ g cap tl dc k (b - a) a z hz az ZK HHZ haz ⟨SR.out.self⟩ ⟨by rw [hs.out]; exact FB.out⟩ ⟨by rw [hs.out]; exact LB_.out⟩ ⟨by rw [hs.out]; exact hsz.out⟩; rw [hs.out] at h_; refine h_.mono ?_; clear h_; rintro e w6 ⟨rfl, hz_, hr_⟩; have S2 := Aside0.mk hz_; have SR2 := Aside0.mk (SR.out.then_ hr_); clear hz_ hr_ SR))
        go_roundg k1
        case measure => exact Nat.lt_succ_self _
        case rel => exact ⟨_, k, _, rfl, ⟨by have := ZK.out; omega⟩, ⟨by have := hk.out; omega, by have := hk.out; omega⟩, ⟨hbu.out⟩, S2, SR2⟩
      | zero =>
        have cnd : decide (z ≥ 0) = false := decide_eq_false (by have := hz0.out; omega)
        obtain ⟨d1, hd1⟩ : ∃ d1, d1 = heapBuild ltInt (b - a) a ((b - a - 1) / 2 + 1) d := ⟨_, rfl⟩
        have D1 := Aside0.mk hd1
        have hbu2 : dc = d1 := by rw [hd1]; exact hbu.out
        clear hd1 hbu
        subst hbu2
        have D2 := Aside0.mk (show heapSort ltInt d a b = heapPop ltInt a (b - a) dc by unfold heapSort; rw [← D1.out])
        clear D1
        go_wp2
        simp only [w1_]
        go_loopg [10] (b - a + 2) (fun kq v10 w' => ∃ (z : Int) (k : Nat) (dj : Array Int), v10 = .int .i64 z ∧ Aside0 (z = (k : Int) - 1) ∧ Aside0 (k < kq ∧ k ≤ b - a) ∧ Aside0 (heapPop ltInt a k dj = heapPop ltInt a (b - a) dc) ∧ Aside0 (dj.size = d.size) ∧ Aside0 (Srt w g tl dj w'))
        case atStart => exact ⟨_, b - a, dc, rfl, ⟨by have := H1.out; have := hab.out; omega⟩, ⟨by omega, Nat.le_refl _⟩, ⟨rfl⟩, hs, SR⟩
        case round =>
          clear SR hs
          obtain ⟨z, k, dj, rfl, hz0, hk, hpo, hs, SR⟩ := hrel
          cases gk with
          | zero => exact absurd hk.out.1 (by omega)
          | succ k2 =>
            cases k with
            | succ k =>
              have cnd : decide (z ≥ 0) = true := decide_eq_true (by have := hz0.out; omega)
              have ZK := Aside0.mk (show z = (k : Int) by have := hz0.out; omega)
              have LB_ := Aside0.mk (show 0 ≤ d.size by omega)
              have FB0 := Aside0.mk (show a + k ≤ d.size by have := hk.out; have := FB.out; omega)
              have KB := Aside0.mk (show a + k < d.size by have := hk.out; have := FB.out; omega)
              clear FB
              have FB := FB0
              clear FB0
              have wz : wrap64 (z - 1) = z - 1 := by have := ZK.out; have := KB.out; have := hsz.out; unfold wrap64; omega
              obtain ⟨ip, hip⟩ : ∃ ip : Int, ip = az + z := ⟨_, rfl⟩
              have wi : wrap64 (az + z) = ip := by have := haz.out; have := ZK.out; have := KB.out; have := hsz.out; unfold wrap64; omega
              have hfa := haz.out
              have hzk := ZK.out
              have hkb := KB.out
              have P_az := Aside0.mk (⟨by omega, by omega⟩ : az.toNat = a ∧ a < d.size)
              have n1_az := eq_true (show 0 ≤ az by omega)
              have n2_az := eq_true (show az < (d.size : Int) by omega)
              have P_ip := Aside0.mk (⟨by omega, by omega⟩ : ip.toNat = a + k ∧ a + k < d.size)
              have n1_ip := eq_true (show 0 ≤ ip by omega)
              have n2_ip := eq_true (show ip < (d.size : Int) by omega)
              clear hfa hzk hkb hip
              obtain ⟨xf, hxf⟩ : ∃ xf, xf = dj[a]! := ⟨_, rfl⟩
              have X_xf := Aside0.mk hxf
              clear hxf
              have C_xf := Aside0.mk (show wr.drew.cell? ⟨g, az.toNat, none⟩ = some (.int .u64 xf) by rw [P_az.out.1, X_xf.out]; exact SR.out.drew.cell (a) (by rw [hs.out]; exact P_az.out.2))
              obtain ⟨xi, hxi⟩ : ∃ xi, xi = dj[a + k]! := ⟨_, rfl⟩
              have X_xi := Aside0.mk hxi
              clear hxi
              have C_xi := Aside0.mk (show wr.drew.cell? ⟨g, ip.toNat, none⟩ = some (.int .u64 xi) by rw [P_ip.out.1, X_xi.out]; exact SR.out.drew.cell (a + k) (by rw [hs.out]; exact P_ip.out.2))
              have fz1_ := SR.out.frozen az.toNat
              have fz2_ := SR.out.frozen ip.toNat
              have s2_ := SR.out.set az.toNat (by rw [P_az.out.1, hs.out]; exact P_az.out.2) xi
              have f2_ := s2_.frozen ip.toNat
              have c2_ := s2_.cell ip.toNat (by rw [Array.size_setIfInBounds, hs.out, P_ip.out.1]; exact P_ip.out.2)
              clear s2_
              go_wp2
              refine start_ (n := 20) (S := fun w' => w'.cell? ⟨g, az.toNat, none⟩ = some (.int .u64 xf) ∧ w'.cell? ⟨g, ip.toNat, none⟩ = some (.int .u64 xi)) (ds := [17, 19]) #[false, false, false, false, false, false, false, false, false, false, false, false, false, false, false, false, false, false, false, false] (by kernel_rfl) rfl rfl ⟨C_xf.out, C_xi.out⟩ (fun hHeld => ?_)
              refine pure_ (i := 0) (N := some 33) (v := ?_) (a' := ?_) #[true, false, false, false, false, false, false, false, false, false, false, false, false, false, false, false, false, false, false, false] rfl rfl (by kernel_rfl) (fun _ _ _ h => h) (Or.inl ⟨by rfl, ?_⟩) ?_ ?_
              rotate_left
              · intro w'
                go_simp
                with_reducible rfl
              rotate_left
              · simp only [Act.put, List.setIfInBounds_toArray, List.set_cons_zero, List.set_cons_succ, i64_w, i32_w]
                rfl
              refine pure_ (i := 1) (N := some 34) (v := ?_) (a' := ?_) #[true, true, false, false, false, false, false, false, false, false, false, false, false, false, false, false, false, false, false, false] rfl rfl (by kernel_rfl) (fun _ _ _ h => h) (Or.inl ⟨by rfl, ?_⟩) ?_ ?_
              rotate_left
              · intro w'
                go_simp
                with_reducible rfl
              rotate_left
              · simp only [Act.put, List.setIfInBounds_toArray, List.set_cons_zero, List.set_cons_succ, i64_w, i32_w]
                rfl
              refine pure_ (i := 2) (N := some 35) (v := ?_) (a' := ?_) #[true, true, true, false, false, false, false, false, false, false, false, false, false, false, false, false, false, false, false, false] rfl rfl (by kernel_rfl) (fun _ _ _ h => h) (Or.inl ⟨by rfl, ?_⟩) ?_ ?_
              rotate_left
              · intro w'
                go_simp
                with_reducible rfl
              rotate_left
              · simp only [Act.put, List.setIfInBounds_toArray, List.set_cons_zero, List.set_cons_succ, i64_w, i32_w]
                rfl
              refine pure_ (i := 3) (N := some 36) (v := ?_) (a' := ?_) #[true, true, true, true, false, false, false, false, false, false, false, false, false, false, false, false, false, false, false, false] rfl rfl (by kernel_rfl) (fun _ _ _ h => h) (Or.inl ⟨by rfl, ?_⟩) ?_ ?_
              rotate_left
              · intro w'
                go_simp
                with_reducible rfl
              rotate_left
              · simp only [Act.put, List.setIfInBounds_toArray, List.set_cons_zero, List.set_cons_succ, i64_w, i32_w]
                rfl
              refine pure_ (i := 4) (N := some 37) (v := ?_) (a' := ?_) #[true, true, true, true, true, false, false, false, false, false, false, false, false, false, false, false, false, false, false, false] rfl rfl (by kernel_rfl) (fun _ _ _ h => h) (Or.inl ⟨by rfl, ?_⟩) ?_ ?_
              rotate_left
              · intro w'
                go_simp
                with_reducible rfl
              rotate_left
              · simp only [Act.put, List.setIfInBounds_toArray, List.set_cons_zero, List.set_cons_succ, i64_w, i32_w]
                rfl
              refine pure_ (i := 5) (N := some 38) (v := ?_) (a' := ?_) #[true, true, true, true, true, true, false, false, false, false, false, false, false, false, false, false, false, false, false, false] rfl rfl (by kernel_rfl) (fun _ _ _ h => h) (Or.inl ⟨by rfl, ?_⟩) ?_ ?_
              rotate_left
              · intro w'
                go_simp
                with_reducible rfl
              rotate_left
              · simp only [Act.put, List.setIfInBounds_toArray, List.set_cons_zero, List.set_cons_succ, i64_w, i32_w]
                rfl
              refine pure_ (i := 6) (N := some 39) (v := ?_) (a' := ?_) #[true, true, true, true, true, true, true, false, false, false, false, false, false, false, false, false, false, false, false, false] rfl rfl (by kernel_rfl) (fun _ _ _ h => h) (Or.inl ⟨by rfl, ?_⟩) ?_ ?_
              rotate_left
              · intro w'
                go_simp
                with_reducible rfl
              rotate_left
              · simp only [Act.put, List.setIfInBounds_toArray, List.set_cons_zero, List.set_cons_succ, i64_w, i32_w]
                rfl
              refine pure_ (i := 7) (N := some 40) (v := ?_) (a' := ?_) #[true, true, true, true, true, true, true, true, false, false, false, false, false, false, false, false, false, false, false, false] rfl rfl (by kernel_rfl) (fun _ _ _ h => h) (Or.inl ⟨by rfl, ?_⟩) ?_ ?_
              rotate_left
              · intro w'
                go_simp
                with_reducible rfl
              rotate_left
              · simp only [Act.put, List.setIfInBounds_toArray, List.set_cons_zero, List.set_cons_succ, i64_w, i32_w]
                rfl
              refine pure_ (i := 8) (N := some 41) (v := ?_) (a' := ?_) #[true, true, true, true, true, true, true, true, true, false, false, false, false, false, false, false, false, false, false, false] rfl rfl (by kernel_rfl) (fun _ _ _ h => h) (Or.inl ⟨by rfl, ?_⟩) ?_ ?_
              rotate_left
              · intro w'
                go_simp
                with_reducible rfl
              rotate_left
              · simp only [Act.put, List.setIfInBounds_toArray, List.set_cons_zero, List.set_cons_succ, i64_w, i32_w]
                rfl
              refine pure_ (i := 9) (N := some 42) (v := ?_) (a' := ?_) #[true, true, true, true, true, true, true, true, true, true, false, false, false, false, false, false, false, false, false, false] rfl rfl (by kernel_rfl) (fun _ _ _ h => h) (Or.inl ⟨by rfl, ?_⟩) ?_ ?_
              rotate_left
              · intro w'
                go_simp
                with_reducible rfl
              rotate_left
              · simp only [Act.put, List.setIfInBounds_toArray, List.set_cons_zero, List.set_cons_succ, i64_w, i32_w]
                rfl
              refine pure_ (i := 10) (N := some 43) (v := ?_) (a' := ?_) #[true, true, true, true, true, true, true, true, true, true, true, false, false, false, false, false, false, false, false, false] rfl rfl (by kernel_rfl) (fun _ _ _ h => h) (Or.inl ⟨by rfl, ?_⟩) ?_ ?_
              rotate_left
              · intro w'
                go_simp
                with_reducible rfl
              rotate_left
              · simp only [Act.put, List.setIfInBounds_toArray, List.set_cons_zero, List.set_cons_succ, i64_w, i32_w]
                rfl
              refine pure_ (i := 12) (N := some 45) (v := ?_) (a' := ?_) #[true, true, true, true, true, true, true, true, true, true, true, false, true, false, false, false, false, false, false, false] rfl rfl (by kernel_rfl) (fun _ _ _ h => h) (Or.inl ⟨by rfl, ?_⟩) ?_ ?_
              rotate_left
              · intro w'
                go_simp
                with_reducible rfl
              rotate_left
              · simp only [Act.put, List.setIfInBounds_toArray, List.set_cons_zero, List.set_cons_succ, i64_w, i32_w]
                rfl
              refine pure_ (i := 13) (N := some 46) (v := ?_) (a' := ?_) #[true, true, true, true, true, true, true, true, true, true, true, false, true, true, false, false, false, false, false, false] rfl rfl (by kernel_rfl) (fun _ _ _ h => h) (Or.inl ⟨by rfl, ?_⟩) ?_ ?_
              rotate_left
              · intro w'
                go_simp
                with_reducible rfl
              rotate_left
              · simp only [Act.put, List.setIfInBounds_toArray, List.set_cons_zero, List.set_cons_succ, i64_w, i32_w]
                rfl
              refine pure_ (i := 14) (N := some 47) (v := ?_) (a' := ?_) #[true, true, true, true, true, true, true, true, true, true, true, false, true, true, true, false, false, false, false, false] rfl rfl (by kernel_rfl) (fun _ _ _ h => h) (Or.inl ⟨by rfl, ?_⟩) ?_ ?_
              rotate_left
              · intro w'
                go_simp
                with_reducible rfl
              rotate_left
              · simp only [Act.put, List.setIfInBounds_toArray, List.set_cons_zero, List.set_cons_succ, i64_w, i32_w]
                rfl
              refine take_ (i := 11) (N := some 44) (v := ?_) (a' := ?_) #[true, true, true, true, true, true, true, true, true, true, true, true, true, true, true, false, false, false, false, false] rfl rfl (by kernel_rfl) (fun _ _ _ h => h) (Or.inl ⟨by rfl, ?_⟩) hHeld ?_ ?_
              rotate_left
              · rintro w' ⟨s0, s1⟩
                go_simp
                with_reducible rfl
              rotate_left
              · simp only [Act.put, List.setIfInBounds_toArray, List.set_cons_zero, List.set_cons_succ, i64_w, i32_w]
                rfl
              refine take_ (i := 15) (N := some 48) (v := ?_) (a' := ?_) #[true, true, true, true, true, true, true, true, true, true, true, true, true, true, true, true, false, false, false, false] rfl rfl (by kernel_rfl) (fun _ _ _ h => h) (Or.inl ⟨by rfl, ?_⟩) hHeld ?_ ?_
              rotate_left
              · rintro w' ⟨s0, s1⟩
                go_simp
                with_reducible rfl
              rotate_left
              · simp only [Act.put, List.setIfInBounds_toArray, List.set_cons_zero, List.set_cons_succ, i64_w, i32_w]
                rfl
              refine pure_ (i := 16) (N := some 49) (v := ?_) (a' := ?_) #[true, true, true, true, true, true, true, true, true, true, true, true, true, true, true, true, true, false, false, false] rfl rfl (by kernel_rfl) (fun _ _ _ h => h) (Or.inl ⟨by rfl, ?_⟩) ?_ ?_
              rotate_left
              · intro w'
                go_simp
                with_reducible rfl
              rotate_left
              · simp only [Act.put, List.setIfInBounds_toArray, List.set_cons_zero, List.set_cons_succ, i64_w, i32_w]
                rfl
              refine last_ (i := 17) (N := none) #[true, true, true, true, true, true, true, true, true, true, true, true, true, true, true, true, true, true, false, false] rfl rfl (by kernel_rfl) (by decide) (fun K hK => ?_)
              refine skip_ (w1 := ?_) (by rfl) rfl ?_ ?_
              rotate_left
              · go_simp
                rfl
              refine hK.out _ _ ?_
              clear hK K
              refine pure_ (i := 18) (N := some 50) (v := ?_) (a' := ?_) #[true, true, true, true, true, true, true, true, true, true, true, true, true, true, true, true, true, true, true, false] rfl rfl (by kernel_rfl) (fun _ _ _ h => h) (Or.inl ⟨by rfl, ?_⟩) ?_ ?_
              rotate_left
              · intro w'
                go_simp
                with_reducible rfl
              rotate_left
              · simp only [Act.put, List.setIfInBounds_toArray, List.set_cons_zero, List.set_cons_succ, i64_w, i32_w]
                rfl
              refine last_ (i := 19) (N := none) #[true, true, true, true, true, true, true, true, true, true, true, true, true, true, true, true, true, true, true, true] rfl rfl (by kernel_rfl) (by decide) (fun K hK => ?_)
              refine skip_ (w1 := ?_) (by rfl) rfl ?_ ?_
              rotate_left
              · go_simp
                rfl
              refine hK.out _ _ ?_
              clear hK K
              refine done_ (by kernel_rfl) ?_
              have SW_ := Aside0.mk (show Srt w g tl (swp dj (a) (a + k)) ((wr.setCell ⟨g, az.toNat, none⟩ (.int .u64 xi)).setCell ⟨g, ip.toNat, none⟩ (.int .u64 xf)).drew by rw [P_az.out.1, P_ip.out.1, X_xf.out, X_xi.out]; exact (SR.out.swp (a) (a + k) (by rw [hs.out]; exact P_az.out.2) (by rw [hs.out]; exact P_ip.out.2)).drew)
              clear SR fz1_ fz2_ f2_ c2_ C_xf C_xi
              have SR := SW_
              clear SW_
              have hs3 := Aside0.mk ((swp_size dj a (a + k)).trans hs.out)
              clear hs
              go_wp2_with (first | (go_at_call 51; have h_ := siftDown64.calls _ g cap tl (swp dj a (a + k)) 0 k a 0 z az ⟨rfl⟩ ZK haz ⟨SR.out.self⟩ ⟨by rw [hs3.out]; exact FB.out⟩ ⟨by rw [hs3.out]; exact LB_.out⟩ ⟨by rw [hs3.out]; exact hsz.out⟩; rw [hs3.out] at h_; refine h_.mono ?_; clear h_; rintro e w6 ⟨rfl, hz_, hr_⟩; have S2 := Aside0.mk hz_; have SR2 := Aside0.mk (SR.out.then_ hr_); clear hz_ hr_ SR))
              go_roundg k2
              case measure => exact Nat.lt_succ_self _
              case rel => exact ⟨_, k, siftDown ltInt k a 0 (swp dj a (a + k)), rfl, ⟨by have := ZK.out; omega⟩, ⟨by have := hk.out; omega, by have := hk.out; omega⟩, ⟨hpo.out⟩, S2, SR2⟩
            | zero =>
              have cnd : decide (z ≥ 0) = false := decide_eq_false (by have := hz0.out; omega)
              go_wp2
              go_end0
              exact ⟨rfl, by rw [D2.out, ← hpo.out]; exact SR.out⟩
end Go.Proofs.Ytdhiljimmijghaa.FAll
