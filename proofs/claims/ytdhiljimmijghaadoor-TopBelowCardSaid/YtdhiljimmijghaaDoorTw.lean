/-
  thickettop.TopBelow: the law's walk.
-/
import Derived.Test.YtdhiljimmijghaaDoorTb
import Derived.Test.YtdhiljimmijghaaDoorOb
namespace Go.Proofs.YtdhiljimmijghaaDoor.FAll
open Go.RowKit Go.Proofs.YtdhiljimmijghaaDoorW.PrintWords Go.Proofs.YtdhiljimmijghaaDoorW.PrintLast Go.Proofs.YtdhiljimmijghaaDoorW.PrintMore
set_option linter.unusedVariables false
set_option linter.unusedSimpArgs false
theorem kCg {α : Type} {d : Kd α} {w1 w2 : World} {A : Option Addr} {n : Nat} {xs : List α} (h : Aside0 (d.C w1 A n xs)) (k : d.C w1 A n xs → d.C w2 A n xs := by intro h_; (with_reducible repeat (first | apply Kd.C_alloc | apply Kd.C_drewN | apply Kd.C_drew)); exact h_) : d.C w2 A n xs := k h.out
theorem one_map : [13826050856027422720, 13830554455654793216].map atBits = [4607182418800017408, 4611686018427387904] := by decide +kernel
/-- What a mask answers. -/
structure MaskOf (ms : List Int) (N n : Nat) : Prop where
  count : bits_Count.f (ms.length + 1) ms = some ((N : Int) - n)
  has : ∀ i : Nat, i < N → bits_Has.f ms i = some (decide (n ≤ i))
  low : lowV ms 0 = if n < N then (n : Int) else -1
  wf : ∀ x ∈ ms, 0 ≤ x ∧ x < 18446744073709551616
  len : ms.length ≤ 16384
theorem maskOf (N n : Nat) (hN : N ≤ 1048576) (hn : n ≤ N) : MaskOf (maskL N n) N n where
  count := count_all N n _ hN hn (by rw [maskL_length]; omega)
  has := fun i hi => has_all N n i hN hn hi
  low := low_all N n hn
  wf := mask_wf N n hn
  len := by rw [maskL_length]; omega
theorem icmp_lt {x y : Int} (h : x < y) : icmp x y = -1 := by unfold icmp; rw [if_pos h]
theorem icmp_ge {x y : Int} (h : ¬ x < y) : 0 ≤ icmp x y := by unfold icmp; rw [if_neg h]; split <;> omega
/-- The keys of a list of numbers: what the law asks of them. -/
structure KeysOk (ks : List Int) (ds : List Nat) (v : Nat) (n : Nat) : Prop where
  len : ds.length = ks.length
  bits : ∀ i (h : i < ds.length), ∃ y : Int, fkey (rdOf (0 : Nat) ds (i : Int)) = y ∧ rdOf (0 : Nat) ds (i : Int) < 2 ^ 64 ∧ isNaN (rdOf (0 : Nat) ds (i : Int)) = false ∧ (y < fkey v ↔ i < n)
  rises : ∀ i (h : i + 1 < ds.length), fkey (rdOf (0 : Nat) ds (i : Int)) < fkey (rdOf (0 : Nat) ds ((i + 1 : Nat) : Int))
  le : n ≤ ds.length
  nan : isNaN v = true → n = ds.length
theorem keysOk {l : List Nat} {ks : List Int} (hd : DistinctOf l ks) (hl : ∀ b ∈ l, b < 2 ^ 64) (v : Nat) (hv : v < 2 ^ 64) : KeysOk ks (ks.map atBits) v (cntB (fkey v) ks) := by
  have hb := distinct_bounds hd hl
  have hk : ∀ i (h : i < ks.length), fkey (rdOf (0 : Nat) (ks.map atBits) (i : Int)) = ks[i] := fun i h => by
    have h1 := hb ks[i] (List.getElem_mem h)
    rw [rd_map ks i h, fkey_at _ h1.1 (by omega)]
  refine ⟨List.length_map .., fun i h => ?_, fun i h => ?_, ?_, fun hn => ?_⟩
  · rw [List.length_map] at h
    have h1 := hb ks[i] (List.getElem_mem h)
    refine ⟨ks[i], hk i h, ?_, ?_, cntB_rising _ ks hd.rises i h⟩
    · rw [rd_map ks i h]
      exact atBits_lt _ h1.1 (by omega)
    · rw [rd_map ks i h, atBits_nan _ h1.1 (by omega)]
      exact decide_eq_false (by omega)
  · rw [List.length_map] at h
    rw [hk i (by omega), hk (i + 1) h]
    exact List.pairwise_iff_getElem.1 hd.rises i (i + 1) (by omega) h (Nat.lt_succ_self i)
  · rw [List.length_map]
    exact cntB_le _ _
  · rw [List.length_map]
    rcases Nat.lt_or_ge (cntB (fkey v) ks) ks.length with h | h
    · have h1 := hb ks[cntB (fkey v) ks] (List.getElem_mem h)
      have h2 := cntB_rising (fkey v) ks hd.rises _ h
      have e := fkey_x hn
      exact absurd (h2.1 (by omega)) (Nat.lt_irrefl _)
    · exact Nat.le_antisymm (cntB_le _ _) h
set_option maxHeartbeats 16000000 in
set_option maxRecDepth 100000 in
theorem TopBelow.calls (w : World) (A : Option Addr) (c : Nat) (l : List Nat) (v : Nat) (hl : Aside0 (Kd.C Kd.f64 w A l.length l)) (hwf : Aside0 (∀ b ∈ l, b < 2 ^ 64)) (hsz : Aside0 (l.length * 8 ≤ 140737488351232)) (hv : Aside0 (v < 2 ^ 64)) (hT : Aside0 (TabAt 0 Lib.deBruijn64tab w)) :
    Calls Tryd.prog 3 #[.slice A l.length c, .float .f64 v] w fun e w' => e = .returned (.bool true) ∧ Below w.heap.size w w' := by
  have HB := Aside0.mk (Below.refl w.heap.size w)
  go_enter Tryd.func3, Tryd.ntmps3
  go_upto_region 2 with (first | (go_at_call 4; refine (Distinct.calls _ A c l (by first | exact hl | exact ⟨kCg hl⟩) hwf hsz).mono ?_; rintro e w1 ⟨v0, ks, rfl, hD, hR, hb⟩; have n0_ := Aside0.mk (below_step (kB0 HB) hb); clear HB; have HB := n0_; have T1 := Aside0.mk (tabAt_below hT.out (kB0 HB)); obtain ⟨ds, hds⟩ : ∃ ds, ds = ks.map atBits := ⟨_, rfl⟩; rw [← hds] at hR; obtain ⟨A5, c5, rfl⟩ := Kd.R_slice hR; have G5 := Aside0.mk (Kd.R_reads' hR).2.2; have L5 := Aside0.mk (Kd.R_reads' hR).2.1; have DO := Aside0.mk hD; have DS := Aside0.mk hds; clear n0_ hD hR hb hds))
  have K0 := Aside0.mk (show DistinctOf l ks from DO.out)
  go_upto_region 3 with (first | (go_at_call 4; refine (Distinct.calls _ (some ⟨w1.heap.size, 0, none⟩) 3 oneL ⟨C_block (blk_new w1 _) (by decide)⟩ ⟨by unfold oneL; simp⟩ ⟨by decide⟩).mono ?_; rintro e w2 ⟨v1, ks1, rfl, hD, hR, hb⟩; obtain rfl := one_keys hD; rw [one_map] at hR; obtain ⟨A6, c6, rfl⟩ := Kd.R_slice hR; have n0_ := Aside0.mk (below_step (kB0 HB) hb); have g5_ := Aside0.mk (Kd.C_below (Kd.C_alloc G5.out _) hb); have t1_ := Aside0.mk (tabAt_below (tabAt_below T1.out (below_alloc (Below.refl _ _) _)) hb); clear HB G5 T1; have HB := n0_; have G5 := g5_; have T1 := t1_; have G6 := Aside0.mk (Kd.R_reads' hR).2.2; have L6 := Aside0.mk (Kd.R_reads' hR).2.1; clear n0_ g5_ t1_ hD hR hb))
  obtain ⟨ad6, rfl, e6⟩ := Kd.at_f64 G6.out 0 (by decide) (by decide)
  have hq6 : (FloatKind.f64.format.order 4607182418800017408 4607182418800017408 != some .eq) = false := by rw [f_neq _ _ (by decide) (by decide), fEq_self]; decide +kernel
  have e6' : w2.cell? ad6 = some (.float .f64 4607182418800017408) := by
    have h := e6
    rw [show ad6.add ((0 : Int).toNat) = ad6 by cases ad6; simp [Addr.add]] at h
    exact h
  go_upto_region 5 with (first | (go_at_call 5; refine (order_Below.calls 3 (some ad6) c6 [4607182418800017408, 4611686018427387904] 4611686018427387904 1 _ (kCg G6) L6.out one_below).mono ?_; rintro e w3 ⟨rfl, ⟨m3, rfl⟩⟩))
  clear e6 e6' hq6 G6 L6
  obtain ⟨n, hn⟩ : ∃ n, n = cntB (fkey v) ks := ⟨_, rfl⟩
  obtain ⟨nz, hnz⟩ : ∃ nz : Int, nz = (n : Int) := ⟨_, rfl⟩
  have KO := Aside0.mk (show KeysOk ks ds v n by rw [DS.out, hn]; exact keysOk DO.out hwf.out v hv.out)
  have BL := Aside0.mk (show order_Below.f (ks.length + 1) ds v = some nz by rw [DS.out, hnz, hn]; exact blw_all v hv.out ks (fun x hx => by have := distinct_bounds DO.out hwf.out x hx; omega) (by have := DO.out.len; have := hsz.out; omega))
  have NZ := Aside0.mk hnz
  clear hn hnz
  by_cases h20 : 1048576 < ds.length
  · have c20 : decide ((1048576 : Int) < (ds.length : Int)) = true := decide_eq_true (by omega)
    clear h20
    go_wp2_with (fail)
    go_ret
    exact ⟨rfl, kB0 HB⟩
  · have c20 : decide ((1048576 : Int) < (ds.length : Int)) = false := decide_eq_false (by omega)
    have N20 := Aside0.mk (show ds.length ≤ 1048576 by omega)
    clear h20
    obtain ⟨ms, hms⟩ : ∃ ms, ms = maskL ds.length n := ⟨_, rfl⟩
    have MO := Aside0.mk (show MaskOf ms ds.length n by rw [hms]; exact maskOf _ _ N20.out KO.out.le)
    have MM := Aside0.mk (show bits_Mask.f ((ds.length + 63) / 64 + 2) ds.length 0 nz = some (ms, 0) by rw [hms, NZ.out]; exact mask_all _ _ _ N20.out KO.out.le (by omega))
    have wd_ : wrap64 ((ds.length : Int) - nz) = (ds.length : Int) - nz := by have := N20.out; have := KO.out.le; have := NZ.out; unfold wrap64; omega
    have nd_ : (((ds.length : Int) - nz) != ((ds.length : Int) - nz)) = false := by simp
    clear hms
    go_upto_region 11 with (first | (go_at_call 5; refine (order_Below.calls (ks.length + 1) A5 c5 ds v nz _ (kCg G5) L5.out BL.out).mono ?_; rintro e w4 ⟨rfl, ⟨m4, rfl⟩⟩) | (go_at_call 6; refine (bits_Mask.calls ((ds.length + 63) / 64 + 2) ds.length 0 nz ms 0 _ MM.out).mono ?_; rintro e w5 ⟨v8, rfl, hR, hb⟩; obtain ⟨A8, c8, rfl⟩ := Kd.R_slice hR; have n0_ := Aside0.mk (below_step (kB0 HB) hb); have g5_ := Aside0.mk (Kd.C_below (kCg G5) hb); have t1_ := Aside0.mk (tabAt_below T1.out (Below.trans (by repeat (first | exact Below.refl _ _ | apply pw_below_drewN)) hb)); clear HB G5 T1; have HB := n0_; have G5 := g5_; have T1 := t1_; have G8 := Aside0.mk (Kd.R_reads' hR).2.2; have L8 := Aside0.mk (Kd.R_reads' hR).2.1; clear n0_ g5_ t1_ hR hb) | (go_at_call 7; refine (bits_Count.calls (ms.length + 1) A8 c8 ms _ _ (kCg G8) L8.out (show _ = some ((ds.length : Int) - nz) by rw [NZ.out]; exact MO.out.count)).mono ?_; rintro e w6 ⟨rfl, ⟨m6, rfl⟩⟩))
    by_cases hlt : n < ds.length
    · have LW := Aside0.mk (show lowV ms 0 = nz by rw [MO.out.low, if_pos hlt, NZ.out])
      have NL := Aside0.mk hlt
      clear hlt
      go_wp2_with (first | (go_at_call 8; refine (Lowest.calls _ A8 c8 ms ⟨kCg G8⟩ ⟨MO.out.wf⟩ ⟨by have := MO.out.len; omega⟩ ⟨tabAt_below T1.out (by first | exact pw_below_drewN (Below.refl _ _) _ | exact Below.refl _ _)⟩).mono ?_; rintro e w7 ⟨rfl, rfl⟩; rw [LW.out]))
      go_loopg [74] (ds.length + 1) (fun kq v74 w' => ∃ (x : Int) (i : Nat), v74 = .int .i64 x ∧ Aside0 (x = i) ∧ Aside0 (i ≤ ds.length) ∧ Aside0 (ds.length - i < kq) ∧ Drawn0 w5 w')
      case atStart => exact ⟨0, 0, rfl, ⟨rfl⟩, ⟨Nat.zero_le _⟩, ⟨by omega⟩, by repeat (first | exact Drawn0.refl _ | apply Drawn0.step)⟩
      case round =>
        obtain ⟨x, i, rfl, hx, hi, hk, ⟨m7, rfl⟩⟩ := hrel
        cases gk with
        | zero => exact absurd hk.out (by omega)
        | succ k1 =>
          by_cases hend : ds.length ≤ i
          · have cnd : decide (x < (ds.length : Int)) = false := decide_eq_false (by have := hx.out; omega)
            clear hend
            have hvn : isNaN v = false := by
              by_cases h : isNaN v = true
              · exact absurd (KO.out.nan h) (by have := NL.out; omega)
              · simpa using h
            have hqv : (FloatKind.f64.format.order v v != some .eq) = false := by rw [f_neq v v hv.out hv.out, fEq_self, hvn]; rfl
            have cK : decide (nz < 0) = false := decide_eq_false (by have := NZ.out; omega)
            have p1 : 0 ≤ nz := by have := NZ.out; omega
            have p2 : nz < (ds.length : Int) := by have := NZ.out; have := NL.out; omega
            obtain ⟨ad5, rfl, e1⟩ := Kd.at_f64 G5.out nz p1 p2
            obtain ⟨y, hy, hb64, hbn, hyn⟩ := KO.out.bits n NL.out
            rw [← NZ.out] at hy hb64 hbn
            obtain ⟨b, hb⟩ : ∃ b, b = rdOf (0 : Nat) ds nz := ⟨_, rfl⟩
            rw [← hb] at e1 hy hb64 hbn
            have B64 := Aside0.mk hb64
            have hle : fkey v ≤ fkey b := by
              have h : ¬ y < fkey v := fun h => Nat.lt_irrefl _ (hyn.1 h)
              omega
            obtain ⟨k1_, k2_⟩ := bet_le (a := v) (b := b) (by rw [hvn, hbn]; rfl) hle
            obtain ⟨bn, hbn2⟩ : ∃ bn, betN v b = bn := ⟨_, rfl⟩
            have BN := Aside0.mk hbn2
            have BE := Aside0.mk k2_
            have cB : decide (0 < bn) = true := decide_eq_true (by omega)
            replace p1 := eq_true p1
            replace p2 := eq_true p2
            clear hvn hb hy hb64 hbn hyn hle k1_ k2_ hbn2
            by_cases h0 : n = 0
            · have z_ : (nz == 0) = true := by simp; have := NZ.out; omega
              clear h0
              go_wp2_with (first | (go_at_call 11; refine (bet_any v b hv.out B64.out _).mono ?_; rintro e w9 ⟨rfl, rfl⟩; rw [BN.out, BE.out]))
              go_ret
              exact ⟨rfl, kB0 HB⟩
            · have z_ : (nz == 0) = false := by simp; have := NZ.out; omega
              obtain ⟨z, hz⟩ : ∃ z : Int, z = nz - 1 := ⟨_, rfl⟩
              have wz_ : wrap64 (nz - 1) = z := by have := NZ.out; have := N20.out; have := NL.out; unfold wrap64; omega
              have pz1 : 0 ≤ z := by have := NZ.out; omega
              have pz2 : z < (ds.length : Int) := by have := NZ.out; have := NL.out; omega
              obtain ⟨ad5', he5, e2⟩ := Kd.at_f64 G5.out z pz1 pz2
              cases he5
              obtain ⟨b0, hb0⟩ : ∃ b0, b0 = rdOf (0 : Nat) ds z := ⟨_, rfl⟩
              obtain ⟨j, hj⟩ : ∃ j : Nat, n = j + 1 := ⟨n - 1, by omega⟩
              have hzj : z = (j : Int) := by have := NZ.out; omega
              obtain ⟨y0, hy0, q64, _, hyn0⟩ := KO.out.bits j (by have := NL.out; omega)
              rw [← hzj, ← hb0] at hy0 q64
              rw [← hb0] at e2
              have B0 := Aside0.mk q64
              have C2 := Aside0.mk (show icmp (fkey b0) (fkey v) = -1 from icmp_lt (by rw [hy0]; exact hyn0.2 (by omega)))
              replace pz1 := eq_true pz1
              replace pz2 := eq_true pz2
              clear h0 hz hb0 hj hzj q64 hy0 hyn0
              go_wp2_with (first | (go_at_call 11; refine (bet_any v b hv.out B64.out _).mono ?_; rintro e w9 ⟨rfl, rfl⟩; rw [BN.out, BE.out]) | (go_at_call 10; refine (compare_any b0 v B0.out hv.out _).mono ?_; rintro e w9 ⟨rfl, rfl⟩; rw [C2.out]))
              go_ret
              exact ⟨rfl, kB0 HB⟩
          · have hlt2 : i < ds.length := by omega
            have cnd : decide (x < (ds.length : Int)) = true := decide_eq_true (by have := hx.out; omega)
            have p1 : 0 ≤ x := by have := hx.out; omega
            have p2 : x < (ds.length : Int) := by have := hx.out; omega
            obtain ⟨ad5, rfl, e1⟩ := Kd.at_f64 G5.out x p1 p2
            obtain ⟨y, hy, hb64, hbn, hyn⟩ := KO.out.bits i hlt2
            have HS0 := MO.out.has i hlt2
            rw [← hx.out] at hy hb64 hbn HS0
            have wx_ : wrap64 (x + 1) = x + 1 := by have := hx.out; have := N20.out; unfold wrap64; omega
            obtain ⟨b, hb⟩ : ∃ b, b = rdOf (0 : Nat) ds x := ⟨_, rfl⟩
            rw [← hb] at e1 hy hb64 hbn
            have B64 := Aside0.mk hb64
            have HB2 := Aside0.mk hb
            have HLT := Aside0.mk hlt2
            obtain ⟨cv, hcv⟩ : ∃ cv, icmp (fkey b) (fkey v) = cv := ⟨_, rfl⟩
            have CV := Aside0.mk hcv
            have HY := Aside0.mk (show y < fkey v ↔ i < n from hyn)
            have HYB := Aside0.mk hy
            replace p1 := eq_true p1
            replace p2 := eq_true p2
            clear hlt2 hend hb hy hb64 hbn hyn hcv
            by_cases hin : i < n
            · have HS := Aside0.mk (show bits_Has.f ms x = some false by rw [HS0, decide_eq_false (by omega)])
              have hc : cv = -1 := by rw [← CV.out, icmp_lt (by rw [HYB.out]; exact HY.out.2 hin)]
              subst hc
              clear hin HS0
              by_cases h0 : i = 0
              · have z_ : decide (0 < x) = false := decide_eq_false (by have := hx.out; omega)
                clear h0
                go_wp2_with (first | (go_at_call 9; refine (bits_Has.calls A8 c8 ms x _ _ (kCg G8) L8.out HS.out).mono ?_; rintro e w9 ⟨rfl, ⟨m9, rfl⟩⟩) | (go_at_call 10; refine (compare_any b v B64.out hv.out _).mono ?_; rintro e w9 ⟨rfl, rfl⟩; rw [CV.out]))
                go_roundg k1
                case measure => exact Nat.lt_succ_self _
                case rel => exact ⟨_, i + 1, rfl, ⟨by have := hx.out; omega⟩, ⟨by have := HLT.out; omega⟩, ⟨by have := hk.out; have := HLT.out; omega⟩, by repeat (first | exact Drawn0.refl _ | apply Drawn0.step)⟩
              · have z_ : decide (0 < x) = true := decide_eq_true (by have := hx.out; omega)
                obtain ⟨z, hz⟩ : ∃ z : Int, z = x - 1 := ⟨_, rfl⟩
                have wz_ : wrap64 (x - 1) = z := by have := hx.out; have := HLT.out; have := N20.out; unfold wrap64; omega
                have pz1 : 0 ≤ z := by have := hx.out; omega
                have pz2 : z < (ds.length : Int) := by have := hx.out; have := HLT.out; omega
                obtain ⟨ad5', he5, e2⟩ := Kd.at_f64 G5.out z pz1 pz2
                cases he5
                obtain ⟨b0, hb0⟩ : ∃ b0, b0 = rdOf (0 : Nat) ds z := ⟨_, rfl⟩
                obtain ⟨j, hj⟩ : ∃ j : Nat, i = j + 1 := ⟨i - 1, by omega⟩
                have hzj : z = (j : Int) := by have := hx.out; omega
                have R0 := KO.out.rises j (by have := HLT.out; omega)
                obtain ⟨_, _, q64, _, _⟩ := KO.out.bits j (by have := HLT.out; omega)
                rw [← hj, ← hx.out, ← hzj, ← hb0, ← HB2.out] at R0
                rw [← hzj, ← hb0] at q64
                rw [← hb0] at e2
                have B0 := Aside0.mk q64
                have C2 := Aside0.mk (show icmp (fkey b0) (fkey b) = -1 from icmp_lt R0)
                replace pz1 := eq_true pz1
                replace pz2 := eq_true pz2
                clear h0 hz hb0 hj hzj R0 q64
                go_wp2_with (first | (go_at_call 9; refine (bits_Has.calls A8 c8 ms x _ _ (kCg G8) L8.out HS.out).mono ?_; rintro e w9 ⟨rfl, ⟨m9, rfl⟩⟩) | (go_at_call 10; refine (compare_any b v B64.out hv.out _).mono ?_; rintro e w9 ⟨rfl, rfl⟩; rw [CV.out]) | (go_at_call 10; refine (compare_any b0 b B0.out B64.out _).mono ?_; rintro e w9 ⟨rfl, rfl⟩; rw [C2.out]))
                go_roundg k1
                case measure => exact Nat.lt_succ_self _
                case rel => exact ⟨_, i + 1, rfl, ⟨by have := hx.out; omega⟩, ⟨by have := HLT.out; omega⟩, ⟨by have := hk.out; have := HLT.out; omega⟩, by repeat (first | exact Drawn0.refl _ | apply Drawn0.step)⟩
            · have HS := Aside0.mk (show bits_Has.f ms x = some true by rw [HS0, decide_eq_true (by omega)])
              have hc : decide (cv < 0) = false := decide_eq_false (by have := icmp_ge (x := fkey b) (y := fkey v) (by rw [HYB.out]; exact fun h => hin (HY.out.1 h)); rw [CV.out] at this; omega)
              clear hin HS0
              by_cases h0 : i = 0
              · have z_ : decide (0 < x) = false := decide_eq_false (by have := hx.out; omega)
                clear h0
                go_wp2_with (first | (go_at_call 9; refine (bits_Has.calls A8 c8 ms x _ _ (kCg G8) L8.out HS.out).mono ?_; rintro e w9 ⟨rfl, ⟨m9, rfl⟩⟩) | (go_at_call 10; refine (compare_any b v B64.out hv.out _).mono ?_; rintro e w9 ⟨rfl, rfl⟩; rw [CV.out]))
                go_roundg k1
                case measure => exact Nat.lt_succ_self _
                case rel => exact ⟨_, i + 1, rfl, ⟨by have := hx.out; omega⟩, ⟨by have := HLT.out; omega⟩, ⟨by have := hk.out; have := HLT.out; omega⟩, by repeat (first | exact Drawn0.refl _ | apply Drawn0.step)⟩
              · have z_ : decide (0 < x) = true := decide_eq_true (by have := hx.out; omega)
                obtain ⟨z, hz⟩ : ∃ z : Int, z = x - 1 := ⟨_, rfl⟩
                have wz_ : wrap64 (x - 1) = z := by have := hx.out; have := HLT.out; have := N20.out; unfold wrap64; omega
                have pz1 : 0 ≤ z := by have := hx.out; omega
                have pz2 : z < (ds.length : Int) := by have := hx.out; have := HLT.out; omega
                obtain ⟨ad5', he5, e2⟩ := Kd.at_f64 G5.out z pz1 pz2
                cases he5
                obtain ⟨b0, hb0⟩ : ∃ b0, b0 = rdOf (0 : Nat) ds z := ⟨_, rfl⟩
                obtain ⟨j, hj⟩ : ∃ j : Nat, i = j + 1 := ⟨i - 1, by omega⟩
                have hzj : z = (j : Int) := by have := hx.out; omega
                have R0 := KO.out.rises j (by have := HLT.out; omega)
                obtain ⟨_, _, q64, _, _⟩ := KO.out.bits j (by have := HLT.out; omega)
                rw [← hj, ← hx.out, ← hzj, ← hb0, ← HB2.out] at R0
                rw [← hzj, ← hb0] at q64
                rw [← hb0] at e2
                have B0 := Aside0.mk q64
                have C2 := Aside0.mk (show icmp (fkey b0) (fkey b) = -1 from icmp_lt R0)
                replace pz1 := eq_true pz1
                replace pz2 := eq_true pz2
                clear h0 hz hb0 hj hzj R0 q64
                go_wp2_with (first | (go_at_call 9; refine (bits_Has.calls A8 c8 ms x _ _ (kCg G8) L8.out HS.out).mono ?_; rintro e w9 ⟨rfl, ⟨m9, rfl⟩⟩) | (go_at_call 10; refine (compare_any b v B64.out hv.out _).mono ?_; rintro e w9 ⟨rfl, rfl⟩; rw [CV.out]) | (go_at_call 10; refine (compare_any b0 b B0.out B64.out _).mono ?_; rintro e w9 ⟨rfl, rfl⟩; rw [C2.out]))
                go_roundg k1
                case measure => exact Nat.lt_succ_self _
                case rel => exact ⟨_, i + 1, rfl, ⟨by have := hx.out; omega⟩, ⟨by have := HLT.out; omega⟩, ⟨by have := hk.out; have := HLT.out; omega⟩, by repeat (first | exact Drawn0.refl _ | apply Drawn0.step)⟩
    · have LW := Aside0.mk (show lowV ms 0 = -1 by rw [MO.out.low, if_neg hlt])
      have NE := Aside0.mk (show n = ds.length from Nat.le_antisymm KO.out.le (by omega))
      have q1_ : ((-1 : Int) != nz) = true := by simp; have := NZ.out; omega
      have q2_ : (nz == (ds.length : Int)) = true := by simp; have := NZ.out; have := NE.out; omega
      clear hlt
      go_wp2_with (first | (go_at_call 8; refine (Lowest.calls _ A8 c8 ms ⟨kCg G8⟩ ⟨MO.out.wf⟩ ⟨by have := MO.out.len; omega⟩ ⟨tabAt_below T1.out (by first | exact pw_below_drewN (Below.refl _ _) _ | exact Below.refl _ _)⟩).mono ?_; rintro e w7 ⟨rfl, rfl⟩; rw [LW.out]))
      go_loopg [74] (ds.length + 1) (fun kq v74 w' => ∃ (x : Int) (i : Nat), v74 = .int .i64 x ∧ Aside0 (x = i) ∧ Aside0 (i ≤ ds.length) ∧ Aside0 (ds.length - i < kq) ∧ Drawn0 w5 w')
      case atStart => exact ⟨0, 0, rfl, ⟨rfl⟩, ⟨Nat.zero_le _⟩, ⟨by omega⟩, by repeat (first | exact Drawn0.refl _ | apply Drawn0.step)⟩
      case round =>
        obtain ⟨x, i, rfl, hx, hi, hk, ⟨m7, rfl⟩⟩ := hrel
        cases gk with
        | zero => exact absurd hk.out (by omega)
        | succ k1 =>
          by_cases hend : ds.length ≤ i
          · have cnd : decide (x < (ds.length : Int)) = false := decide_eq_false (by have := hx.out; omega)
            clear hend
            by_cases hvn : isNaN v = true
            · have hqv : (FloatKind.f64.format.order v v != some .eq) = true := by rw [f_neq v v hv.out hv.out, fEq_self, hvn]; rfl
              clear hvn
              go_wp2_with (fail)
              go_ret
              exact ⟨rfl, kB0 HB⟩
            · have hvn : isNaN v = false := by simpa using hvn
              have hqv : (FloatKind.f64.format.order v v != some .eq) = false := by rw [f_neq v v hv.out hv.out, fEq_self, hvn]; rfl
              clear hvn
              by_cases h0 : ds.length = 0
              · have z_ : ((ds.length : Int) == 0) = true := beq_iff_eq.mpr (by omega)
                clear h0
                go_wp2_with (fail)
                go_ret
                exact ⟨rfl, kB0 HB⟩
              · have z_ : ((ds.length : Int) == 0) = false := beq_eq_false_iff_ne.mpr (by omega)
                obtain ⟨z, hz⟩ : ∃ z : Int, z = (ds.length : Int) - 1 := ⟨_, rfl⟩
                have wz_ : wrap64 ((ds.length : Int) - 1) = z := by have := N20.out; unfold wrap64; omega
                have pz1 : 0 ≤ z := by omega
                have pz2 : z < (ds.length : Int) := by omega
                obtain ⟨ad5, rfl, e2⟩ := Kd.at_f64 G5.out z pz1 pz2
                obtain ⟨b0, hb0⟩ : ∃ b0, b0 = rdOf (0 : Nat) ds z := ⟨_, rfl⟩
                obtain ⟨j, hj⟩ : ∃ j : Nat, ds.length = j + 1 := ⟨ds.length - 1, by omega⟩
                have hzj : z = (j : Int) := by omega
                obtain ⟨y0, hy0, q64, _, hyn0⟩ := KO.out.bits j (by omega)
                rw [← hzj, ← hb0] at hy0 q64
                rw [← hb0] at e2
                have B0 := Aside0.mk q64
                have C2 := Aside0.mk (show icmp (fkey b0) (fkey v) = -1 from icmp_lt (by rw [hy0]; exact hyn0.2 (by have := NE.out; omega)))
                replace pz1 := eq_true pz1
                replace pz2 := eq_true pz2
                clear h0 hz hb0 hj hzj q64 hy0 hyn0
                go_wp2_with (first | (go_at_call 10; refine (compare_any b0 v B0.out hv.out _).mono ?_; rintro e w9 ⟨rfl, rfl⟩; rw [C2.out]))
                go_ret
                exact ⟨rfl, kB0 HB⟩
          · have hlt2 : i < ds.length := by omega
            have cnd : decide (x < (ds.length : Int)) = true := decide_eq_true (by have := hx.out; omega)
            have p1 : 0 ≤ x := by have := hx.out; omega
            have p2 : x < (ds.length : Int) := by have := hx.out; omega
            obtain ⟨ad5, rfl, e1⟩ := Kd.at_f64 G5.out x p1 p2
            obtain ⟨y, hy, hb64, hbn, hyn⟩ := KO.out.bits i hlt2
            have HS0 := MO.out.has i hlt2
            rw [← hx.out] at hy hb64 hbn HS0
            have wx_ : wrap64 (x + 1) = x + 1 := by have := hx.out; have := N20.out; unfold wrap64; omega
            obtain ⟨b, hb⟩ : ∃ b, b = rdOf (0 : Nat) ds x := ⟨_, rfl⟩
            rw [← hb] at e1 hy hb64 hbn
            have B64 := Aside0.mk hb64
            have HB2 := Aside0.mk hb
            have HLT := Aside0.mk hlt2
            obtain ⟨cv, hcv⟩ : ∃ cv, icmp (fkey b) (fkey v) = cv := ⟨_, rfl⟩
            have CV := Aside0.mk hcv
            have HY := Aside0.mk (show y < fkey v ↔ i < n from hyn)
            have HYB := Aside0.mk hy
            replace p1 := eq_true p1
            replace p2 := eq_true p2
            clear hlt2 hend hb hy hb64 hbn hyn hcv
            by_cases hin : i < n
            · have HS := Aside0.mk (show bits_Has.f ms x = some false by rw [HS0, decide_eq_false (by omega)])
              have hc : cv = -1 := by rw [← CV.out, icmp_lt (by rw [HYB.out]; exact HY.out.2 hin)]
              subst hc
              clear hin HS0
              by_cases h0 : i = 0
              · have z_ : decide (0 < x) = false := decide_eq_false (by have := hx.out; omega)
                clear h0
                go_wp2_with (first | (go_at_call 9; refine (bits_Has.calls A8 c8 ms x _ _ (kCg G8) L8.out HS.out).mono ?_; rintro e w9 ⟨rfl, ⟨m9, rfl⟩⟩) | (go_at_call 10; refine (compare_any b v B64.out hv.out _).mono ?_; rintro e w9 ⟨rfl, rfl⟩; rw [CV.out]))
                go_roundg k1
                case measure => exact Nat.lt_succ_self _
                case rel => exact ⟨_, i + 1, rfl, ⟨by have := hx.out; omega⟩, ⟨by have := HLT.out; omega⟩, ⟨by have := hk.out; have := HLT.out; omega⟩, by repeat (first | exact Drawn0.refl _ | apply Drawn0.step)⟩
              · have z_ : decide (0 < x) = true := decide_eq_true (by have := hx.out; omega)
                obtain ⟨z, hz⟩ : ∃ z : Int, z = x - 1 := ⟨_, rfl⟩
                have wz_ : wrap64 (x - 1) = z := by have := hx.out; have := HLT.out; have := N20.out; unfold wrap64; omega
                have pz1 : 0 ≤ z := by have := hx.out; omega
                have pz2 : z < (ds.length : Int) := by have := hx.out; have := HLT.out; omega
                obtain ⟨ad5', he5, e2⟩ := Kd.at_f64 G5.out z pz1 pz2
                cases he5
                obtain ⟨b0, hb0⟩ : ∃ b0, b0 = rdOf (0 : Nat) ds z := ⟨_, rfl⟩
                obtain ⟨j, hj⟩ : ∃ j : Nat, i = j + 1 := ⟨i - 1, by omega⟩
                have hzj : z = (j : Int) := by have := hx.out; omega
                have R0 := KO.out.rises j (by have := HLT.out; omega)
                obtain ⟨_, _, q64, _, _⟩ := KO.out.bits j (by have := HLT.out; omega)
                rw [← hj, ← hx.out, ← hzj, ← hb0, ← HB2.out] at R0
                rw [← hzj, ← hb0] at q64
                rw [← hb0] at e2
                have B0 := Aside0.mk q64
                have C2 := Aside0.mk (show icmp (fkey b0) (fkey b) = -1 from icmp_lt R0)
                replace pz1 := eq_true pz1
                replace pz2 := eq_true pz2
                clear h0 hz hb0 hj hzj R0 q64
                go_wp2_with (first | (go_at_call 9; refine (bits_Has.calls A8 c8 ms x _ _ (kCg G8) L8.out HS.out).mono ?_; rintro e w9 ⟨rfl, ⟨m9, rfl⟩⟩) | (go_at_call 10; refine (compare_any b v B64.out hv.out _).mono ?_; rintro e w9 ⟨rfl, rfl⟩; rw [CV.out]) | (go_at_call 10; refine (compare_any b0 b B0.out B64.out _).mono ?_; rintro e w9 ⟨rfl, rfl⟩; rw [C2.out]))
                go_roundg k1
                case measure => exact Nat.lt_succ_self _
                case rel => exact ⟨_, i + 1, rfl, ⟨by have := hx.out; omega⟩, ⟨by have := HLT.out; omega⟩, ⟨by have := hk.out; have := HLT.out; omega⟩, by repeat (first | exact Drawn0.refl _ | apply Drawn0.step)⟩
            · have HS := Aside0.mk (show bits_Has.f ms x = some true by rw [HS0, decide_eq_true (by omega)])
              have hc : decide (cv < 0) = false := decide_eq_false (by have := icmp_ge (x := fkey b) (y := fkey v) (by rw [HYB.out]; exact fun h => hin (HY.out.1 h)); rw [CV.out] at this; omega)
              clear hin HS0
              by_cases h0 : i = 0
              · have z_ : decide (0 < x) = false := decide_eq_false (by have := hx.out; omega)
                clear h0
                go_wp2_with (first | (go_at_call 9; refine (bits_Has.calls A8 c8 ms x _ _ (kCg G8) L8.out HS.out).mono ?_; rintro e w9 ⟨rfl, ⟨m9, rfl⟩⟩) | (go_at_call 10; refine (compare_any b v B64.out hv.out _).mono ?_; rintro e w9 ⟨rfl, rfl⟩; rw [CV.out]))
                go_roundg k1
                case measure => exact Nat.lt_succ_self _
                case rel => exact ⟨_, i + 1, rfl, ⟨by have := hx.out; omega⟩, ⟨by have := HLT.out; omega⟩, ⟨by have := hk.out; have := HLT.out; omega⟩, by repeat (first | exact Drawn0.refl _ | apply Drawn0.step)⟩
              · have z_ : decide (0 < x) = true := decide_eq_true (by have := hx.out; omega)
                obtain ⟨z, hz⟩ : ∃ z : Int, z = x - 1 := ⟨_, rfl⟩
                have wz_ : wrap64 (x - 1) = z := by have := hx.out; have := HLT.out; have := N20.out; unfold wrap64; omega
                have pz1 : 0 ≤ z := by have := hx.out; omega
                have pz2 : z < (ds.length : Int) := by have := hx.out; have := HLT.out; omega
                obtain ⟨ad5', he5, e2⟩ := Kd.at_f64 G5.out z pz1 pz2
                cases he5
                obtain ⟨b0, hb0⟩ : ∃ b0, b0 = rdOf (0 : Nat) ds z := ⟨_, rfl⟩
                obtain ⟨j, hj⟩ : ∃ j : Nat, i = j + 1 := ⟨i - 1, by omega⟩
                have hzj : z = (j : Int) := by have := hx.out; omega
                have R0 := KO.out.rises j (by have := HLT.out; omega)
                obtain ⟨_, _, q64, _, _⟩ := KO.out.bits j (by have := HLT.out; omega)
                rw [← hj, ← hx.out, ← hzj, ← hb0, ← HB2.out] at R0
                rw [← hzj, ← hb0] at q64
                rw [← hb0] at e2
                have B0 := Aside0.mk q64
                have C2 := Aside0.mk (show icmp (fkey b0) (fkey b) = -1 from icmp_lt R0)
                replace pz1 := eq_true pz1
                replace pz2 := eq_true pz2
                clear h0 hz hb0 hj hzj R0 q64
                go_wp2_with (first | (go_at_call 9; refine (bits_Has.calls A8 c8 ms x _ _ (kCg G8) L8.out HS.out).mono ?_; rintro e w9 ⟨rfl, ⟨m9, rfl⟩⟩) | (go_at_call 10; refine (compare_any b v B64.out hv.out _).mono ?_; rintro e w9 ⟨rfl, rfl⟩; rw [CV.out]) | (go_at_call 10; refine (compare_any b0 b B0.out B64.out _).mono ?_; rintro e w9 ⟨rfl, rfl⟩; rw [C2.out]))
                go_roundg k1
                case measure => exact Nat.lt_succ_self _
                case rel => exact ⟨_, i + 1, rfl, ⟨by have := hx.out; omega⟩, ⟨by have := HLT.out; omega⟩, ⟨by have := hk.out; have := HLT.out; omega⟩, by repeat (first | exact Drawn0.refl _ | apply Drawn0.step)⟩
end Go.Proofs.YtdhiljimmijghaaDoor.FAll
