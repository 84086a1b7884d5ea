/-
 slices.symMergeCmpFunc at structs: two sorted neighbours become one sorted row, stably.
-/
import Derived.Test.YtfmjgjfbnilpoaaZq
import Derived.Test.YtfmjgjfbnilpoaaCb
import Derived.Test.YtfmjgjfbnilpoaaCd
namespace Go.Proofs.Ytfmjgjfbnilpoaa.FAll
open Go.RowKit Go.Sort YtfmjgjfbnilpoaaW.PrintWords YtfmjgjfbnilpoaaW.PrintLast YtfmjgjfbnilpoaaW.PrintMore
set_option linter.unusedVariables false
set_option linter.unusedSimpArgs false
theorem half_conv (s hz : Int) (n h : Nat) (hs : s = (n : Int)) (hn : n < 4611686018427387904) (hh : h = n / 2) (hhz : hz = (h : Int)) : wrap64 (IntKind.u64.wrap s / 2) = hz := by
 rw [IntKind.wrap_u64]; unfold wrap64; omega
/-- symMerge makes one sorted row of two. -/
def SymCallsC {α : Type} [Inhabited α] (E : RcC α) (kb : Nat) (ko : Obj) (lt : α → α → Bool) (F : FuncId) (lb : Array Value) (k : Nat) : Prop := ∀ (w : World) (g cap : Nat) (tl : List Value) (d : Array α) (a m b : Nat) (az mz bz : Int), Aside0 (az = a) → Aside0 (mz = m) → Aside0 (bz = b) → Aside0 (SrC E kb ko w g tl d w) → Aside0 (a < m) → Aside0 (m < b) → Aside0 (b ≤ d.size) → Aside0 (SortedIn lt a m d) → Aside0 (SortedIn lt m b d) → Aside0 (d.size ≤ 1152921504606846976) → b - a < k →
  Calls Try.prog 71 #[.slice (some ⟨g, 0, none⟩) d.size cap, .int .i64 az, .int .i64 mz, .int .i64 bz, .func (.func F) #[] lb] w fun e w' => e = .returned (.tuple #[]) ∧ ∃ d', Stab lt a b d d' ∧ SortedIn lt a b d' ∧ SrC E kb ko w g tl d' w'
set_option maxHeartbeats 16000000 in
set_option maxRecDepth 100000 in
theorem sym_stepC {α : Type} [Inhabited α] {E : RcC α} {kb : Nat} {ko : Obj} {lt : α → α → Bool} {F : FuncId} {lb : Array Value} (CF : CmpC E kb ko lt F lb) (k : Nat) (ih : SymCallsC E kb ko lt F lb k) : SymCallsC E kb ko lt F lb (k + 1) := by
 intro w g cap tl d a m b az mz bz haz hmz hbz hR ham hmb hbd hS1 hS2 hsz hN
 obtain ⟨dz, hdz⟩ : ∃ dz : Int, dz = mz - az := ⟨_, rfl⟩
 obtain ⟨ez, hez⟩ : ∃ ez : Int, ez = bz - mz := ⟨_, rfl⟩
 have DZ := aS_ (show dz = ((m - a : Nat) : Int) by have := haz.out; have := hmz.out; have := ham.out; omega)
 have EZ := aS_ (show ez = ((b - m : Nat) : Int) by have := hbz.out; have := hmz.out; have := hmb.out; omega)
 have wd_ : wrap64 (mz - az) = dz := by have := hsz.out; have := hbd.out; have := hmz.out; have := haz.out; have := ham.out; have := hmb.out; unfold wrap64; omega
 have we_ : wrap64 (bz - mz) = ez := by have := hsz.out; have := hbd.out; have := hmz.out; have := hbz.out; have := hmb.out; unfold wrap64; omega
 clear hdz hez
 have hN := aS_ hN
 go_enter Try.func71, Try.ntmps71
 by_cases h1 : m - a = 1
 ·have e1_ : (dz == 1) = true := by rw [beq_iff_eq]; have := DZ.out; omega
  have e2_ : decide (dz = 1) = true := decide_eq_true (by have := DZ.out; omega)
  have M1 := aS_ (show m = a + 1 by have := ham.out; omega)
  clear h1
  go_wp2
  go_loopg [10, 11] (b - m + 1) (fun kq v1_ v2_ w' => ∃ (iz jz : Int) (i j : Nat), v1_ = .int .i64 iz ∧ v2_ = .int .i64 jz ∧ Aside0 (iz = i) ∧ Aside0 (jz = j) ∧ Aside0 (m ≤ i ∧ i ≤ j ∧ j ≤ b) ∧ Aside0 (j - i < kq) ∧ Aside0 (∀ q, m ≤ q → q < i → lt d[q]! d[a]! = true) ∧ Aside0 (j = b ∨ lt d[j]! d[a]! = false) ∧ Aside0 (SrC E kb ko w g tl d w'))
  case atStart => exact ⟨_, _, m, b, rfl, rfl, hmz, hbz, ⟨by have := hmb.out; omega⟩, ⟨by omega⟩, ⟨fun q h1 h2 => absurd h1 (by omega)⟩, ⟨.inl rfl⟩, hR⟩
  case round =>
   clear hR
   obtain ⟨iz, jz, i, j, rfl, rfl, hi, hj, RNG, hk, LO, HI, SR⟩ := hrel
   cases gk with
   | zero => exact absurd hk.out (by omega)
   | succ k1 =>
    by_cases hle : i < j
    ·have cnd : decide (iz < jz) = true := decide_eq_true (by have := hi.out; have := hj.out; omega)
     have LE := aS_ hle
     clear hle
     obtain ⟨sz, hsz_⟩ : ∃ sz : Int, sz = iz + jz := ⟨_, rfl⟩
     obtain ⟨h, hh⟩ : ∃ h : Nat, h = (i + j) / 2 := ⟨_, rfl⟩
     have H_h := aS_ hh
     obtain ⟨hz, hhz⟩ : ∃ hz : Int, hz = (h : Int) := ⟨_, rfl⟩
     have Z_hz := aS_ hhz
     have SZ := aS_ (show sz = ((i + j : Nat) : Int) ∧ i + j < 4611686018427387904 by have := hi.out; have := hj.out; have := RNG.out; have := hbd.out; have := hmb.out; have := hsz.out; omega)
     have w1_ : wrap64 (iz + jz) = sz := by have := SZ.out; unfold wrap64; omega
     have w2_ := half_conv sz hz (i + j) h SZ.out.1 SZ.out.2 H_h.out Z_hz.out
     clear hsz_ hh hhz
     have HR := aS_ (show i ≤ h ∧ h < j by have := H_h.out; have := LE.out; omega)
     have wh_ : wrap64 (hz + 1) = hz + 1 := by have := Z_hz.out; have := HR.out; have := RNG.out; have := hbd.out; have := hmb.out; have := hsz.out; unfold wrap64; omega
     have P_hz := aS_ (⟨by have := Z_hz.out; have := HR.out; have := RNG.out; have := hbd.out; omega, by have := Z_hz.out; have := HR.out; have := RNG.out; have := hbd.out; omega⟩ : hz.toNat = h ∧ h < d.size)
     have n1_hz := eq_true (show 0 ≤ hz by have := Z_hz.out; have := HR.out; have := RNG.out; have := hbd.out; omega)
     have n2_hz := eq_true (show hz < (d.size : Int) by have := Z_hz.out; have := HR.out; have := RNG.out; have := hbd.out; omega)
     have P_az := aS_ (⟨by have := haz.out; have := ham.out; have := hmb.out; have := hbd.out; omega, by have := haz.out; have := ham.out; have := hmb.out; have := hbd.out; omega⟩ : az.toNat = a ∧ a < d.size)
     have n1_az := eq_true (show 0 ≤ az by have := haz.out; have := ham.out; have := hmb.out; have := hbd.out; omega)
     have n2_az := eq_true (show az < (d.size : Int) by have := haz.out; have := ham.out; have := hmb.out; have := hbd.out; omega)
     obtain ⟨x1, hx1⟩ : ∃ x1, x1 = d[h]! := ⟨_, rfl⟩
     have X_x1 := aS_ hx1
     clear hx1
     have C_x1 := aS_ (show AtC E wr.drew g (hz.toNat * 5) x1 by rw [P_hz.out.1, X_x1.out]; exact SR.out.drew.at_ (h) P_hz.out.2)
     obtain ⟨x0, hx0⟩ : ∃ x0, x0 = d[a]! := ⟨_, rfl⟩
     have X_x0 := aS_ hx0
     clear hx0
     have C_x0 := aS_ (show AtC E wr.drew g (az.toNat * 5) x0 by rw [P_az.out.1, X_x0.out]; exact SR.out.drew.at_ (a) P_az.out.2)
     go_wp2
     refine start_ (n := 11) (S := fun w' => AtC E w' g (hz.toNat * 5) x1 ∧ AtC E w' g (az.toNat * 5) x0) (ds := []) #[false, false, false, false, false, false, false, false, false, false, false] (by kernel_rfl) rfl rfl ⟨C_x1.out, C_x0.out⟩ (fun hHeld => ?_)
     refine pq_ (v := ?_) (b := ?_) (m := ?_) 0 (some 40) ?_
     refine pq_ (v := ?_) (b := ?_) (m := ?_) 1 (some 41) ?_
     refine pq_ (v := ?_) (b := ?_) (m := ?_) 2 (some 42) ?_
     refine pq_ (v := ?_) (b := ?_) (m := ?_) 3 (some 43) ?_
     refine pq_ (v := ?_) (b := ?_) (m := ?_) 5 (some 45) ?_
     refine pq_ (v := ?_) (b := ?_) (m := ?_) 6 (some 46) ?_
     refine pq_ (v := ?_) (b := ?_) (m := ?_) 7 (some 47) ?_
     refine tq_ (v := ?_) (b := ?_) (m := ?_) 4 (some 44) hHeld ?_
     refine tq_ (v := ?_) (b := ?_) (m := ?_) 8 (some 48) hHeld ?_
     refine oq_ (m := ?_) 9 (some 49) fun K hK => ?_
     refine goesV_ (f := F) (lb := lb) CF.enters #[.agg #[E.e0 x1, E.e1 x1, E.e2 x1, E.e3 x1, E.e4 x1], .agg #[E.e0 x0, E.e1 x0, E.e2 x0, E.e3 x0, E.e4 x0]] (by kernel_rfl) rfl (by rfl) (by rfl) (by simp only [List.map_toArray, List.map_cons, List.map_nil]; rfl) ?_
     with_reducible refine (CF.calls x1 x0 _ SR.out.drew.held).mono ?_
     rintro e w4 ⟨⟨cv, rfl, hcv⟩, hbq⟩
     have LB := aS_ hcv
     clear hcv
     refine ⟨_, rfl, ?_⟩
     have mSR_ := aS_ (SR.out.drew.below hbq)
     clear SR
     have SR := mSR_
     clear mSR_
     refine hK.out _ _ ⟨(AtC.below hbq hHeld.1), (AtC.below hbq hHeld.2)⟩ (fun hHeld => ?_)
     clear hK K
     refine nq_ (b := ?_) (some 49) ?_
     refine pq_ (v := ?_) (b := ?_) (m := ?_) 10 (some 50) ?_
     refine done_ (by kernel_rfl) ?_
     clear hbq C_x1 C_x0
     by_cases hcv : cv < 0
     ·have kc := decide_eq_true hcv
      have LT := aS_ (LB.out.symm.trans kc)
      clear hcv LB
      simp only [kc]
      go_wp2
      go_roundg k1
      case measure => exact Nat.lt_succ_self _
      case rel => exact ⟨_, _, h + 1, j, rfl, rfl, ⟨by have := Z_hz.out; omega⟩, hj, ⟨by have := HR.out; have := RNG.out; omega⟩, ⟨by have := HR.out; have := hk.out; omega⟩, ⟨fun q h1 h2 => lt_of_le_lt CF.swo (sle CF.swo hS2.out q h h1 (by omega) (by have := HR.out; have := RNG.out; omega)) (by rw [← X_x1.out, ← X_x0.out]; exact LT.out)⟩, HI, SR⟩
     ·have kc := decide_eq_false hcv
      have LT := aS_ (LB.out.symm.trans kc)
      clear hcv LB
      simp only [kc]
      go_wp2
      go_roundg k1
      case measure => exact Nat.lt_succ_self _
      case rel => exact ⟨_, _, i, h, rfl, rfl, hi, ⟨w2_.trans Z_hz.out⟩, ⟨by have := HR.out; have := RNG.out; omega⟩, ⟨by have := HR.out; have := hk.out; omega⟩, LO, ⟨.inr (by rw [← X_x1.out, ← X_x0.out]; exact LT.out)⟩, SR⟩
    ·have cnd : decide (iz < jz) = false := decide_eq_false (by have := hi.out; have := hj.out; omega)
     have EQ := aS_ (show i = j by have := RNG.out; omega)
     clear hle hk
     obtain ⟨lz, hlz⟩ : ∃ lz : Int, lz = iz - 1 := ⟨_, rfl⟩
     have LZ := aS_ (show lz = ((i - 1 : Nat) : Int) ∧ a + 1 ≤ i by have := hi.out; have := RNG.out; have := ham.out; omega)
     have wl_ : wrap64 (iz - 1) = lz := by have := hi.out; have := RNG.out; have := hbd.out; have := hsz.out; unfold wrap64; omega
     clear hlz
     go_wp2
     go_loopg [13] (i + 1) (fun kq v13 w' => ∃ (cz : Int) (c : Nat) (dj : Array α), v13 = .int .i64 cz ∧ Aside0 (cz = c) ∧ Aside0 (a ≤ c ∧ c ≤ i - 1) ∧ Aside0 (i - c < kq) ∧ Ride lt a c d dj ∧ Aside0 (SrC E kb ko w g tl dj w'))
     case atStart => exact ⟨_, a, d, rfl, haz, ⟨by have := LZ.out; omega⟩, ⟨by omega⟩, Ride.zero a d, SR⟩
     case round =>
      clear SR
      obtain ⟨cz, c, dj, rfl, hc, CR, hk, RD, SR⟩ := hrel
      have HD := aS_ RD.st.size
      cases gk with
      | zero => exact absurd hk.out (by omega)
      | succ k1 =>
       by_cases hle : c < i - 1
       ·have cnd2 : decide (cz < lz) = true := decide_eq_true (by have := hc.out; have := LZ.out; have := CR.out; omega)
        have LE := aS_ hle
        clear hle
        obtain ⟨c1z, hc1z⟩ : ∃ c1z : Int, c1z = cz + 1 := ⟨_, rfl⟩
        have C1 := aS_ (show c1z = ((c + 1 : Nat) : Int) by have := hc.out; omega)
        have wc_ : wrap64 (cz + 1) = c1z := by have := hc.out; have := LE.out; have := RNG.out; have := hbd.out; have := hsz.out; unfold wrap64; omega
        clear hc1z
        have P_cz := aS_ (⟨by have := hc.out; have := LE.out; have := RNG.out; have := hbd.out; omega, by have := hc.out; have := LE.out; have := RNG.out; have := hbd.out; omega⟩ : cz.toNat = c ∧ c < d.size)
        have n1_cz := eq_true (show 0 ≤ cz by have := hc.out; have := LE.out; have := RNG.out; have := hbd.out; omega)
        have n2_cz := eq_true (show cz < (d.size : Int) by have := hc.out; have := LE.out; have := RNG.out; have := hbd.out; omega)
        have P_c1z := aS_ (⟨by have := C1.out; have := LE.out; have := RNG.out; have := hbd.out; omega, by have := C1.out; have := LE.out; have := RNG.out; have := hbd.out; omega⟩ : c1z.toNat = c + 1 ∧ c + 1 < d.size)
        have n1_c1z := eq_true (show 0 ≤ c1z by have := C1.out; have := LE.out; have := RNG.out; have := hbd.out; omega)
        have n2_c1z := eq_true (show c1z < (d.size : Int) by have := C1.out; have := LE.out; have := RNG.out; have := hbd.out; omega)
        obtain ⟨x1, hx1⟩ : ∃ x1, x1 = dj[c]! := ⟨_, rfl⟩
        have X_x1 := aS_ hx1
        clear hx1
        have C_x1 := aS_ (show AtC E wr.drew g (cz.toNat * 5) x1 by rw [P_cz.out.1, X_x1.out]; exact SR.out.drew.at_ (c) (by rw [HD.out]; exact P_cz.out.2))
        obtain ⟨x0, hx0⟩ : ∃ x0, x0 = dj[c + 1]! := ⟨_, rfl⟩
        have X_x0 := aS_ hx0
        clear hx0
        have C_x0 := aS_ (show AtC E wr.drew g (c1z.toNat * 5) x0 by rw [P_c1z.out.1, X_x0.out]; exact SR.out.drew.at_ (c + 1) (by rw [HD.out]; exact P_c1z.out.2))
        go_wp2
        refine start_ (n := 18) (S := fun w' => AtC E w' g (cz.toNat * 5) x1 ∧ AtC E w' g (c1z.toNat * 5) x0) (ds := [15, 17]) #[false, false, false, false, false, false, false, false, false, false, false, false, false, false, false, false, false, false] (by kernel_rfl) rfl rfl ⟨C_x1.out, C_x0.out⟩ (fun hHeld => ?_)
        refine pq_ (v := ?_) (b := ?_) (m := ?_) 0 (some 61) ?_
        refine pq_ (v := ?_) (b := ?_) (m := ?_) 1 (some 62) ?_
        refine pq_ (v := ?_) (b := ?_) (m := ?_) 2 (some 63) ?_
        refine pq_ (v := ?_) (b := ?_) (m := ?_) 3 (some 64) ?_
        refine pq_ (v := ?_) (b := ?_) (m := ?_) 4 (some 65) ?_
        refine pq_ (v := ?_) (b := ?_) (m := ?_) 5 (some 66) ?_
        refine pq_ (v := ?_) (b := ?_) (m := ?_) 6 (some 67) ?_
        refine pq_ (v := ?_) (b := ?_) (m := ?_) 7 (some 68) ?_
        refine pq_ (v := ?_) (b := ?_) (m := ?_) 8 (some 69) ?_
        refine pq_ (v := ?_) (b := ?_) (m := ?_) 10 (some 71) ?_
        refine pq_ (v := ?_) (b := ?_) (m := ?_) 11 (some 72) ?_
        refine pq_ (v := ?_) (b := ?_) (m := ?_) 12 (some 73) ?_
        refine tq_ (v := ?_) (b := ?_) (m := ?_) 9 (some 70) hHeld ?_
        refine tq_ (v := ?_) (b := ?_) (m := ?_) 13 (some 74) hHeld ?_
        refine pq_ (v := ?_) (b := ?_) (m := ?_) 14 (some 75) ?_
        refine lq_ (m := ?_) 15 none fun K hK => ?_
        refine SrC.store_ SR.out.drew cz.toNat (by rw [P_cz.out.1, HD.out]; exact P_cz.out.2) x0 (by rfl) rfl rfl (by rfl) (by rfl) ?_
        intro w8_ hs8_
        refine hK.out _ _ ?_
        clear hK K
        refine pq_ (v := ?_) (b := ?_) (m := ?_) 16 (some 76) ?_
        refine lq_ (m := ?_) 17 none fun K hK => ?_
        refine SrC.store_ hs8_ c1z.toNat (by rw [Array.size_setIfInBounds, HD.out, P_c1z.out.1]; exact P_c1z.out.2) x1 (by rfl) rfl rfl (by rfl) (by rfl) ?_
        intro w9_ hs9_
        refine hK.out _ _ ?_
        clear hK K
        refine done_ (by kernel_rfl) ?_
        have SW_ := aS_ (show SrC E kb ko w g tl (swp dj (c) (c + 1)) w9_ by rw [P_cz.out.1, P_c1z.out.1, X_x1.out, X_x0.out] at hs9_; exact hs9_)
        clear SR hs8_ hs9_ C_x1 C_x0
        have SR := SW_
        clear SW_
        go_wp2
        go_roundg k1
        case measure => exact Nat.lt_succ_self _
        case rel => exact ⟨_, c + 1, swp dj c (c + 1), rfl, ⟨wc_.trans C1.out⟩, ⟨by have := CR.out; have := LE.out; omega⟩, ⟨by have := hk.out; have := LE.out; omega⟩, RD.step CF.swo CR.out.1 P_c1z.out.2 (LO.out (c + 1) (by have := M1.out; have := CR.out; omega) (by have := LE.out; omega)), SR⟩
       ·have cnd2 : decide (cz < lz) = false := decide_eq_false (by have := hc.out; have := LZ.out; have := CR.out; omega)
        have CE := aS_ (show c = i - 1 by have := CR.out; omega)
        clear hle hk
        go_wp2
        (try simp only [Exit.inBlock, Exit.then])
        refine bodyPost_ret (results_none rfl _ _ _) rfl ?_
        rw [CE.out] at RD
        exact ⟨rfl, dj, RD.st.mono (Nat.le_refl _) (by have := RNG.out; have := LZ.out; omega), RD.sorted CF.swo LZ.out.2 (by have := RNG.out; omega) (by rw [← M1.out]; exact hS2.out) (by rw [EQ.out]; exact HI.out) (by rw [← M1.out]; exact LO.out), SR.out⟩
 ·have e1_ : (dz == 1) = false := by rw [beq_eq_false_iff_ne]; have := DZ.out; have := ham.out; omega
  have e2_ : decide (dz = 1) = false := decide_eq_false (by have := DZ.out; have := ham.out; omega)
  by_cases h2 : b - m = 1
  ·have e1_ : (ez == 1) = true := by rw [beq_iff_eq]; have := EZ.out; omega
   have e2_ : decide (ez = 1) = true := decide_eq_true (by have := EZ.out; omega)
   have M1 := aS_ (show b = m + 1 by have := hmb.out; omega)
   clear h2
   go_wp2
   go_loopg [14, 15] (m - a + 1) (fun kq v1_ v2_ w' => ∃ (iz jz : Int) (i j : Nat), v1_ = .int .i64 iz ∧ v2_ = .int .i64 jz ∧ Aside0 (iz = i) ∧ Aside0 (jz = j) ∧ Aside0 (a ≤ i ∧ i ≤ j ∧ j ≤ m) ∧ Aside0 (j - i < kq) ∧ Aside0 (i = a ∨ lt d[m]! d[i - 1]! = false) ∧ Aside0 (∀ q, j ≤ q → q < m → lt d[m]! d[q]! = true) ∧ Aside0 (SrC E kb ko w g tl d w'))
   case atStart => exact ⟨_, _, a, m, rfl, rfl, haz, hmz, ⟨by have := ham.out; omega⟩, ⟨by omega⟩, ⟨.inl rfl⟩, ⟨fun q h1 h2 => absurd h1 (by omega)⟩, hR⟩
   case round =>
    clear hR
    obtain ⟨iz, jz, i, j, rfl, rfl, hi, hj, RNG, hk, LO, HI, SR⟩ := hrel
    cases gk with
    | zero => exact absurd hk.out (by omega)
    | succ k1 =>
     by_cases hle : i < j
     ·have cnd : decide (iz < jz) = true := decide_eq_true (by have := hi.out; have := hj.out; omega)
      have LE := aS_ hle
      clear hle
      obtain ⟨sz, hsz_⟩ : ∃ sz : Int, sz = iz + jz := ⟨_, rfl⟩
      obtain ⟨h, hh⟩ : ∃ h : Nat, h = (i + j) / 2 := ⟨_, rfl⟩
      have H_h := aS_ hh
      obtain ⟨hz, hhz⟩ : ∃ hz : Int, hz = (h : Int) := ⟨_, rfl⟩
      have Z_hz := aS_ hhz
      have SZ := aS_ (show sz = ((i + j : Nat) : Int) ∧ i + j < 4611686018427387904 by have := hi.out; have := hj.out; have := RNG.out; have := hbd.out; have := hmb.out; have := hsz.out; omega)
      have w1_ : wrap64 (iz + jz) = sz := by have := SZ.out; unfold wrap64; omega
      have w2_ := half_conv sz hz (i + j) h SZ.out.1 SZ.out.2 H_h.out Z_hz.out
      clear hsz_ hh hhz
      have HR := aS_ (show i ≤ h ∧ h < j by have := H_h.out; have := LE.out; omega)
      have wh_ : wrap64 (hz + 1) = hz + 1 := by have := Z_hz.out; have := HR.out; have := RNG.out; have := hbd.out; have := hmb.out; have := hsz.out; unfold wrap64; omega
      have P_hz := aS_ (⟨by have := Z_hz.out; have := HR.out; have := RNG.out; have := hmb.out; have := hbd.out; omega, by have := Z_hz.out; have := HR.out; have := RNG.out; have := hmb.out; have := hbd.out; omega⟩ : hz.toNat = h ∧ h < d.size)
      have n1_hz := eq_true (show 0 ≤ hz by have := Z_hz.out; have := HR.out; have := RNG.out; have := hmb.out; have := hbd.out; omega)
      have n2_hz := eq_true (show hz < (d.size : Int) by have := Z_hz.out; have := HR.out; have := RNG.out; have := hmb.out; have := hbd.out; omega)
      have P_mz := aS_ (⟨by have := hmz.out; have := hmb.out; have := hbd.out; omega, by have := hmz.out; have := hmb.out; have := hbd.out; omega⟩ : mz.toNat = m ∧ m < d.size)
      have n1_mz := eq_true (show 0 ≤ mz by have := hmz.out; have := hmb.out; have := hbd.out; omega)
      have n2_mz := eq_true (show mz < (d.size : Int) by have := hmz.out; have := hmb.out; have := hbd.out; omega)
      obtain ⟨x1, hx1⟩ : ∃ x1, x1 = d[m]! := ⟨_, rfl⟩
      have X_x1 := aS_ hx1
      clear hx1
      have C_x1 := aS_ (show AtC E wr.drew g (mz.toNat * 5) x1 by rw [P_mz.out.1, X_x1.out]; exact SR.out.drew.at_ (m) P_mz.out.2)
      obtain ⟨x0, hx0⟩ : ∃ x0, x0 = d[h]! := ⟨_, rfl⟩
      have X_x0 := aS_ hx0
      clear hx0
      have C_x0 := aS_ (show AtC E wr.drew g (hz.toNat * 5) x0 by rw [P_hz.out.1, X_x0.out]; exact SR.out.drew.at_ (h) P_hz.out.2)
      go_wp2
      refine start_ (n := 12) (S := fun w' => AtC E w' g (mz.toNat * 5) x1 ∧ AtC E w' g (hz.toNat * 5) x0) (ds := []) #[false, false, false, false, false, false, false, false, false, false, false, false] (by kernel_rfl) rfl rfl ⟨C_x1.out, C_x0.out⟩ (fun hHeld => ?_)
      refine pq_ (v := ?_) (b := ?_) (m := ?_) 0 (some 92) ?_
      refine pq_ (v := ?_) (b := ?_) (m := ?_) 1 (some 93) ?_
      refine pq_ (v := ?_) (b := ?_) (m := ?_) 2 (some 94) ?_
      refine pq_ (v := ?_) (b := ?_) (m := ?_) 3 (some 95) ?_
      refine pq_ (v := ?_) (b := ?_) (m := ?_) 5 (some 97) ?_
      refine pq_ (v := ?_) (b := ?_) (m := ?_) 6 (some 98) ?_
      refine pq_ (v := ?_) (b := ?_) (m := ?_) 7 (some 99) ?_
      refine tq_ (v := ?_) (b := ?_) (m := ?_) 4 (some 96) hHeld ?_
      refine tq_ (v := ?_) (b := ?_) (m := ?_) 8 (some 100) hHeld ?_
      refine oq_ (m := ?_) 9 (some 101) fun K hK => ?_
      refine goesV_ (f := F) (lb := lb) CF.enters #[.agg #[E.e0 x1, E.e1 x1, E.e2 x1, E.e3 x1, E.e4 x1], .agg #[E.e0 x0, E.e1 x0, E.e2 x0, E.e3 x0, E.e4 x0]] (by kernel_rfl) rfl (by rfl) (by rfl) (by simp only [List.map_toArray, List.map_cons, List.map_nil]; rfl) ?_
      with_reducible refine (CF.calls x1 x0 _ SR.out.drew.held).mono ?_
      rintro e w4 ⟨⟨cv, rfl, hcv⟩, hbq⟩
      have LB := aS_ hcv
      clear hcv
      refine ⟨_, rfl, ?_⟩
      have mSR_ := aS_ (SR.out.drew.below hbq)
      clear SR
      have SR := mSR_
      clear mSR_
      refine hK.out _ _ ⟨(AtC.below hbq hHeld.1), (AtC.below hbq hHeld.2)⟩ (fun hHeld => ?_)
      clear hK K
      refine nq_ (b := ?_) (some 101) ?_
      refine pq_ (v := ?_) (b := ?_) (m := ?_) 10 (some 102) ?_
      refine pq_ (v := ?_) (b := ?_) (m := ?_) 11 (some 103) ?_
      refine done_ (by kernel_rfl) ?_
      clear hbq C_x1 C_x0
      by_cases hcv : cv < 0
      ·have kc := decide_eq_true hcv
       have LT := aS_ (LB.out.symm.trans kc)
       clear hcv LB
       simp only [kc]
       go_wp2
       go_roundg k1
       case measure => exact Nat.lt_succ_self _
       case rel => exact ⟨_, _, i, h, rfl, rfl, hi, ⟨w2_.trans Z_hz.out⟩, ⟨by have := HR.out; have := RNG.out; omega⟩, ⟨by have := HR.out; have := hk.out; omega⟩, LO, ⟨fun q h1 h2 => lt_of_lt_le CF.swo (by rw [← X_x1.out, ← X_x0.out]; exact LT.out) (sle CF.swo hS1.out h q (by have := HR.out; have := RNG.out; omega) h1 h2)⟩, SR⟩
      ·have kc := decide_eq_false hcv
       have LT := aS_ (LB.out.symm.trans kc)
       clear hcv LB
       simp only [kc]
       go_wp2
       go_roundg k1
       case measure => exact Nat.lt_succ_self _
       case rel => exact ⟨_, _, h + 1, j, rfl, rfl, ⟨by have := Z_hz.out; omega⟩, hj, ⟨by have := HR.out; have := RNG.out; omega⟩, ⟨by have := HR.out; have := hk.out; omega⟩, ⟨.inr (by rw [Nat.add_sub_cancel, ← X_x1.out, ← X_x0.out]; exact LT.out)⟩, HI, SR⟩
     ·have cnd : decide (iz < jz) = false := decide_eq_false (by have := hi.out; have := hj.out; omega)
      have EQ := aS_ (show i = j by have := RNG.out; omega)
      clear hle hk
      go_wp2
      go_loopg [17] (m + 1) (fun kq v17 w' => ∃ (cz : Int) (c : Nat) (dj : Array α), v17 = .int .i64 cz ∧ Aside0 (cz = c) ∧ Aside0 (i ≤ c ∧ c ≤ m) ∧ Aside0 (c < kq) ∧ Sink lt c m d dj ∧ Aside0 (SrC E kb ko w g tl dj w'))
      case atStart => exact ⟨_, m, d, rfl, hmz, ⟨by have := RNG.out; omega⟩, ⟨by omega⟩, Sink.zero m d, SR⟩
      case round =>
       clear SR
       obtain ⟨cz, c, dj, rfl, hc, CR, hk, RD, SR⟩ := hrel
       have HD := aS_ RD.st.size
       cases gk with
       | zero => exact absurd hk.out (by omega)
       | succ k1 =>
        by_cases hle : i < c
        ·obtain ⟨e, rfl⟩ : ∃ e, c = e + 1 := ⟨c - 1, by omega⟩
         have cnd2 : decide (cz > iz) = true := decide_eq_true (by have := hc.out; have := hi.out; have := CR.out; omega)
         have LE := aS_ hle
         clear hle
         obtain ⟨c1z, hc1z⟩ : ∃ c1z : Int, c1z = cz - 1 := ⟨_, rfl⟩
         have C1 := aS_ (show c1z = ((e : Nat) : Int) by have := hc.out; omega)
         have wc_ : wrap64 (cz - 1) = c1z := by have := hc.out; have := CR.out; have := hmb.out; have := hbd.out; have := hsz.out; unfold wrap64; omega
         clear hc1z
         have P_cz := aS_ (⟨by have := hc.out; have := CR.out; have := hmb.out; have := hbd.out; omega, by have := hc.out; have := CR.out; have := hmb.out; have := hbd.out; omega⟩ : cz.toNat = e + 1 ∧ e + 1 < d.size)
         have n1_cz := eq_true (show 0 ≤ cz by have := hc.out; have := CR.out; have := hmb.out; have := hbd.out; omega)
         have n2_cz := eq_true (show cz < (d.size : Int) by have := hc.out; have := CR.out; have := hmb.out; have := hbd.out; omega)
         have P_c1z := aS_ (⟨by have := C1.out; have := CR.out; have := hmb.out; have := hbd.out; omega, by have := C1.out; have := CR.out; have := hmb.out; have := hbd.out; omega⟩ : c1z.toNat = e ∧ e < d.size)
         have n1_c1z := eq_true (show 0 ≤ c1z by have := C1.out; have := CR.out; have := hmb.out; have := hbd.out; omega)
         have n2_c1z := eq_true (show c1z < (d.size : Int) by have := C1.out; have := CR.out; have := hmb.out; have := hbd.out; omega)
         obtain ⟨x1, hx1⟩ : ∃ x1, x1 = dj[e + 1]! := ⟨_, rfl⟩
         have X_x1 := aS_ hx1
         clear hx1
         have C_x1 := aS_ (show AtC E wr.drew g (cz.toNat * 5) x1 by rw [P_cz.out.1, X_x1.out]; exact SR.out.drew.at_ (e + 1) (by rw [HD.out]; exact P_cz.out.2))
         obtain ⟨x0, hx0⟩ : ∃ x0, x0 = dj[e]! := ⟨_, rfl⟩
         have X_x0 := aS_ hx0
         clear hx0
         have C_x0 := aS_ (show AtC E wr.drew g (c1z.toNat * 5) x0 by rw [P_c1z.out.1, X_x0.out]; exact SR.out.drew.at_ (e) (by rw [HD.out]; exact P_c1z.out.2))
         go_wp2
         refine start_ (n := 18) (S := fun w' => AtC E w' g (cz.toNat * 5) x1 ∧ AtC E w' g (c1z.toNat * 5) x0) (ds := [15, 17]) #[false, false, false, false, false, false, false, false, false, false, false, false, false, false, false, false, false, false] (by kernel_rfl) rfl rfl ⟨C_x1.out, C_x0.out⟩ (fun hHeld => ?_)
         refine pq_ (v := ?_) (b := ?_) (m := ?_) 0 (some 113) ?_
         refine pq_ (v := ?_) (b := ?_) (m := ?_) 1 (some 114) ?_
         refine pq_ (v := ?_) (b := ?_) (m := ?_) 2 (some 115) ?_
         refine pq_ (v := ?_) (b := ?_) (m := ?_) 3 (some 116) ?_
         refine pq_ (v := ?_) (b := ?_) (m := ?_) 4 (some 117) ?_
         refine pq_ (v := ?_) (b := ?_) (m := ?_) 5 (some 118) ?_
         refine pq_ (v := ?_) (b := ?_) (m := ?_) 6 (some 119) ?_
         refine pq_ (v := ?_) (b := ?_) (m := ?_) 7 (some 120) ?_
         refine pq_ (v := ?_) (b := ?_) (m := ?_) 8 (some 121) ?_
         refine pq_ (v := ?_) (b := ?_) (m := ?_) 10 (some 123) ?_
         refine pq_ (v := ?_) (b := ?_) (m := ?_) 11 (some 124) ?_
         refine pq_ (v := ?_) (b := ?_) (m := ?_) 12 (some 125) ?_
         refine tq_ (v := ?_) (b := ?_) (m := ?_) 9 (some 122) hHeld ?_
         refine tq_ (v := ?_) (b := ?_) (m := ?_) 13 (some 126) hHeld ?_
         refine pq_ (v := ?_) (b := ?_) (m := ?_) 14 (some 127) ?_
         refine lq_ (m := ?_) 15 none fun K hK => ?_
         refine SrC.store_ SR.out.drew cz.toNat (by rw [P_cz.out.1, HD.out]; exact P_cz.out.2) x0 (by rfl) rfl rfl (by rfl) (by rfl) ?_
         intro w8_ hs8_
         refine hK.out _ _ ?_
         clear hK K
         refine pq_ (v := ?_) (b := ?_) (m := ?_) 16 (some 128) ?_
         refine lq_ (m := ?_) 17 none fun K hK => ?_
         refine SrC.store_ hs8_ c1z.toNat (by rw [Array.size_setIfInBounds, HD.out, P_c1z.out.1]; exact P_c1z.out.2) x1 (by rfl) rfl rfl (by rfl) (by rfl) ?_
         intro w9_ hs9_
         refine hK.out _ _ ?_
         clear hK K
         refine done_ (by kernel_rfl) ?_
         have SW_ := aS_ (show SrC E kb ko w g tl (swp dj (e + 1) (e)) w9_ by rw [P_cz.out.1, P_c1z.out.1, X_x1.out, X_x0.out] at hs9_; exact hs9_)
         clear SR hs8_ hs9_ C_x1 C_x0
         have SR := SW_
         clear SW_
         go_wp2
         go_roundg k1
         case measure => exact Nat.lt_succ_self _
         case rel => exact ⟨_, e, swp dj (e + 1) e, rfl, ⟨wc_.trans C1.out⟩, ⟨by have := CR.out; have := LE.out; omega⟩, ⟨by have := hk.out; omega⟩, RD.step CF.swo CR.out.2 (by have := hmb.out; have := hbd.out; omega) (HI.out e (by have := LE.out; have := EQ.out; omega) (by have := CR.out; omega)), SR⟩
        ·have cnd2 : decide (cz > iz) = false := decide_eq_false (by have := hc.out; have := hi.out; omega)
         have CE := aS_ (show c = i by have := CR.out; omega)
         clear hle hk
         go_wp2
         (try simp only [Exit.inBlock, Exit.then])
         refine bodyPost_ret (results_none rfl _ _ _) rfl ?_
         rw [CE.out] at RD
         have SO := RD.sorted CF.swo (by have := RNG.out; omega) (by have := RNG.out; omega) hS1.out LO.out (by rw [EQ.out]; exact HI.out)
         rw [← M1.out] at SO
         have ST := RD.st
         rw [← M1.out] at ST
         exact ⟨rfl, dj, ST.mono (by have := RNG.out; omega) (Nat.le_refl _), SO, SR.out⟩
  ·have L2 := aS_ (show 2 ≤ m - a ∧ 2 ≤ b - m by have := ham.out; have := hmb.out; omega)
   have e1_ : (ez == 1) = false := by rw [beq_eq_false_iff_ne]; have := EZ.out; have := L2.out; omega
   have e2_ : decide (ez = 1) = false := decide_eq_false (by have := EZ.out; have := L2.out; omega)
   clear h1 h2
   obtain ⟨sz, hsz_⟩ : ∃ sz : Int, sz = az + bz := ⟨_, rfl⟩
   obtain ⟨mid, hmid⟩ : ∃ mid : Nat, mid = (a + b) / 2 := ⟨_, rfl⟩
   have H_mid := aS_ hmid
   obtain ⟨midz, hmidz⟩ : ∃ midz : Int, midz = (mid : Int) := ⟨_, rfl⟩
   have Z_midz := aS_ hmidz
   have SZ := aS_ (show sz = ((a + b : Nat) : Int) ∧ a + b < 4611686018427387904 by have := haz.out; have := hbz.out; have := ham.out; have := hmb.out; have := hbd.out; have := hsz.out; omega)
   have w1_ : wrap64 (az + bz) = sz := by have := SZ.out; unfold wrap64; omega
   have w2_ := half_conv sz midz (a + b) mid SZ.out.1 SZ.out.2 H_mid.out Z_midz.out
   clear hsz_ hmid hmidz
   obtain ⟨n, hn⟩ : ∃ n : Nat, n = mid + m := ⟨_, rfl⟩
   have NN := aS_ hn
   obtain ⟨nz, hnz⟩ : ∃ nz : Int, nz = midz + mz := ⟨_, rfl⟩
   have NZ := aS_ (show nz = (n : Int) by have := Z_midz.out; have := hmz.out; omega)
   have wn_ : wrap64 (midz + mz) = nz := by have := NZ.out; have := NN.out; have := H_mid.out; have := Z_midz.out; have := ham.out; have := hmz.out; have := hmb.out; have := hbd.out; have := hsz.out; unfold wrap64; omega
   obtain ⟨nbz, hnbz⟩ : ∃ nbz : Int, nbz = nz - bz := ⟨_, rfl⟩
   have NB := aS_ (show nbz = nz - bz from hnbz)
   have wnb_ : wrap64 (nz - bz) = nbz := by have := NZ.out; have := NN.out; have := H_mid.out; have := hbz.out; have := ham.out; have := hmb.out; have := hbd.out; have := hsz.out; have := NB.out; unfold wrap64; omega
   obtain ⟨pz, hpz⟩ : ∃ pz : Int, pz = nz - 1 := ⟨_, rfl⟩
   have PZ := aS_ (show pz = ((n - 1 : Nat) : Int) ∧ 1 ≤ n by have := NZ.out; have := NN.out; have := L2.out; omega)
   have wpz_ : wrap64 (nz - 1) = pz := by have := PZ.out; have := NZ.out; have := NN.out; have := H_mid.out; have := ham.out; have := hmb.out; have := hbd.out; have := hsz.out; unfold wrap64; omega
   clear hn hnz hnbz hpz
   go_upto_if 140 with (fail)
   (try simp only [w2_, wn_])
   go_cut [20, 21] from 140 to 146 (fun s_ s2_ wc => ∃ (loz hiz : Int) (lo hi : Nat), s_ = .int .i64 loz ∧ s2_ = .int .i64 hiz ∧ Aside0 (loz = lo) ∧ Aside0 (hiz = hi) ∧ Aside0 ((mid < m ∧ lo = n - b ∧ hi = mid) ∨ (m ≤ mid ∧ lo = a ∧ hi = m)) ∧ Aside0 (SrC E kb ko w g tl d wc))
   case first =>
    by_cases hmm : mid < m
    ·have cm : decide (mz > midz) = true := decide_eq_true (by have := hmz.out; have := Z_midz.out; omega)
     have MM := aS_ hmm
     clear hmm
     simp only [cm]
     go_wp2
     go_meet
     exact ⟨_, _, n - b, mid, rfl, rfl, ⟨by rw [wnb_]; have := NB.out; have := NZ.out; have := NN.out; have := hbz.out; have := H_mid.out; have := MM.out; have := ham.out; have := hmb.out; omega⟩, Z_midz, ⟨.inl ⟨MM.out, rfl, rfl⟩⟩, hR⟩
    ·have cm : decide (mz > midz) = false := decide_eq_false (by have := hmz.out; have := Z_midz.out; omega)
     have MM := aS_ (show m ≤ mid by omega)
     clear hmm
     simp only [cm]
     go_wp2
     go_meet
     exact ⟨_, _, a, m, rfl, rfl, haz, hmz, ⟨.inr ⟨MM.out, rfl, rfl⟩⟩, hR⟩
   case rest =>
    clear hR
    obtain ⟨loz, hiz, lo, hi0, rfl, rfl, LOZ, HIZ, LH, SR⟩ := hcut
    have LH2 := aS_ (show a ≤ lo ∧ lo ≤ hi0 ∧ hi0 ≤ m ∧ hi0 ≤ mid by rcases LH.out with h | h <;> (have := NN.out; have := H_mid.out; have := ham.out; have := hmb.out; omega))
    go_wp2
    simp only [wpz_]
    go_loopg [20, 21] (hi0 - lo + 1) (fun kq v1_ v2_ w' => ∃ (iz jz : Int) (i j : Nat), v1_ = .int .i64 iz ∧ v2_ = .int .i64 jz ∧ Aside0 (iz = i) ∧ Aside0 (jz = j) ∧ Aside0 (lo ≤ i ∧ i ≤ j ∧ j ≤ hi0) ∧ Aside0 (j - i < kq) ∧ Aside0 (i = lo ∨ lt d[n - i]! d[i - 1]! = false) ∧ Aside0 (j = hi0 ∨ lt d[n - 1 - j]! d[j]! = true) ∧ Aside0 (SrC E kb ko w g tl d w'))
    case atStart => exact ⟨_, _, lo, hi0, rfl, rfl, LOZ, HIZ, ⟨by have := LH2.out; omega⟩, ⟨by omega⟩, ⟨.inl rfl⟩, ⟨.inl rfl⟩, SR⟩
    case round =>
     clear SR
     obtain ⟨iz, jz, i, j, rfl, rfl, hi, hj, RNG, hk, LO, HI, SR⟩ := hrel
     cases gk with
     | zero => exact absurd hk.out (by omega)
     | succ k1 =>
      by_cases hle : i < j
      ·have cnd : decide (iz < jz) = true := decide_eq_true (by have := hi.out; have := hj.out; omega)
       have LE := aS_ hle
       clear hle
       clear w1_ w2_ SZ
       obtain ⟨sz, hsz_⟩ : ∃ sz : Int, sz = iz + jz := ⟨_, rfl⟩
       obtain ⟨h, hh⟩ : ∃ h : Nat, h = (i + j) / 2 := ⟨_, rfl⟩
       have H_h := aS_ hh
       obtain ⟨hz, hhz⟩ : ∃ hz : Int, hz = (h : Int) := ⟨_, rfl⟩
       have Z_hz := aS_ hhz
       have SZ := aS_ (show sz = ((i + j : Nat) : Int) ∧ i + j < 4611686018427387904 by have := hi.out; have := hj.out; have := RNG.out; have := LH2.out; have := hbd.out; have := hmb.out; have := hsz.out; omega)
       have w1_ : wrap64 (iz + jz) = sz := by have := SZ.out; unfold wrap64; omega
       have w2_ := half_conv sz hz (i + j) h SZ.out.1 SZ.out.2 H_h.out Z_hz.out
       clear hsz_ hh hhz
       have HR := aS_ (show i ≤ h ∧ h < j by have := H_h.out; have := LE.out; omega)
       have wh_ : wrap64 (hz + 1) = hz + 1 := by have := Z_hz.out; have := HR.out; have := RNG.out; have := LH2.out; have := hbd.out; have := hmb.out; have := hsz.out; unfold wrap64; omega
       obtain ⟨tz, htz⟩ : ∃ tz : Int, tz = pz - hz := ⟨_, rfl⟩
       have TZ := aS_ (show tz = ((n - 1 - h : Nat) : Int) ∧ n - 1 - h < b by rcases LH.out with h9 | h9 <;> (have := PZ.out; have := Z_hz.out; have := HR.out; have := RNG.out; have := LH2.out; have := NN.out; have := H_mid.out; have := ham.out; have := hmb.out; omega))
       have wt_ : wrap64 (pz - hz) = tz := by have := TZ.out; have := PZ.out; have := Z_hz.out; have := HR.out; have := RNG.out; have := LH2.out; have := NN.out; have := hbd.out; have := hmb.out; have := hsz.out; have := H_mid.out; unfold wrap64; omega
       clear htz
       have P_hz := aS_ (⟨by have := Z_hz.out; have := HR.out; have := RNG.out; have := LH2.out; have := hmb.out; have := hbd.out; omega, by have := Z_hz.out; have := HR.out; have := RNG.out; have := LH2.out; have := hmb.out; have := hbd.out; omega⟩ : hz.toNat = h ∧ h < d.size)
       have n1_hz := eq_true (show 0 ≤ hz by have := Z_hz.out; have := HR.out; have := RNG.out; have := LH2.out; have := hmb.out; have := hbd.out; omega)
       have n2_hz := eq_true (show hz < (d.size : Int) by have := Z_hz.out; have := HR.out; have := RNG.out; have := LH2.out; have := hmb.out; have := hbd.out; omega)
       have P_tz := aS_ (⟨by have := TZ.out; have := hbd.out; omega, by have := TZ.out; have := hbd.out; omega⟩ : tz.toNat = n - 1 - h ∧ n - 1 - h < d.size)
       have n1_tz := eq_true (show 0 ≤ tz by have := TZ.out; have := hbd.out; omega)
       have n2_tz := eq_true (show tz < (d.size : Int) by have := TZ.out; have := hbd.out; omega)
       obtain ⟨x1, hx1⟩ : ∃ x1, x1 = d[n - 1 - h]! := ⟨_, rfl⟩
       have X_x1 := aS_ hx1
       clear hx1
       have C_x1 := aS_ (show AtC E wr.drew g (tz.toNat * 5) x1 by rw [P_tz.out.1, X_x1.out]; exact SR.out.drew.at_ (n - 1 - h) P_tz.out.2)
       obtain ⟨x0, hx0⟩ : ∃ x0, x0 = d[h]! := ⟨_, rfl⟩
       have X_x0 := aS_ hx0
       clear hx0
       have C_x0 := aS_ (show AtC E wr.drew g (hz.toNat * 5) x0 by rw [P_hz.out.1, X_x0.out]; exact SR.out.drew.at_ (h) P_hz.out.2)
       go_wp2
       refine start_ (n := 14) (S := fun w' => AtC E w' g (tz.toNat * 5) x1 ∧ AtC E w' g (hz.toNat * 5) x0) (ds := []) #[false, false, false, false, false, false, false, false, false, false, false, false, false, false] (by kernel_rfl) rfl rfl ⟨C_x1.out, C_x0.out⟩ (fun hHeld => ?_)
       refine pq_ (v := ?_) (b := ?_) (m := ?_) 0 (some 158) ?_
       refine pq_ (v := ?_) (b := ?_) (m := ?_) 1 (some 159) ?_
       refine pq_ (v := ?_) (b := ?_) (m := ?_) 2 (some 160) ?_
       refine pq_ (v := ?_) (b := ?_) (m := ?_) 3 (some 161) ?_
       refine pq_ (v := ?_) (b := ?_) (m := ?_) 4 (some 162) ?_
       refine pq_ (v := ?_) (b := ?_) (m := ?_) 5 (some 163) ?_
       refine pq_ (v := ?_) (b := ?_) (m := ?_) 7 (some 165) ?_
       refine pq_ (v := ?_) (b := ?_) (m := ?_) 8 (some 166) ?_
       refine pq_ (v := ?_) (b := ?_) (m := ?_) 9 (some 167) ?_
       refine tq_ (v := ?_) (b := ?_) (m := ?_) 6 (some 164) hHeld ?_
       refine tq_ (v := ?_) (b := ?_) (m := ?_) 10 (some 168) hHeld ?_
       refine oq_ (m := ?_) 11 (some 169) fun K hK => ?_
       refine goesV_ (f := F) (lb := lb) CF.enters #[.agg #[E.e0 x1, E.e1 x1, E.e2 x1, E.e3 x1, E.e4 x1], .agg #[E.e0 x0, E.e1 x0, E.e2 x0, E.e3 x0, E.e4 x0]] (by kernel_rfl) rfl (by rfl) (by rfl) (by simp only [List.map_toArray, List.map_cons, List.map_nil]; rfl) ?_
       with_reducible refine (CF.calls x1 x0 _ SR.out.drew.held).mono ?_
       rintro e w4 ⟨⟨cv, rfl, hcv⟩, hbq⟩
       have LB := aS_ hcv
       clear hcv
       refine ⟨_, rfl, ?_⟩
       have mSR_ := aS_ (SR.out.drew.below hbq)
       clear SR
       have SR := mSR_
       clear mSR_
       refine hK.out _ _ ⟨(AtC.below hbq hHeld.1), (AtC.below hbq hHeld.2)⟩ (fun hHeld => ?_)
       clear hK K
       refine nq_ (b := ?_) (some 169) ?_
       refine pq_ (v := ?_) (b := ?_) (m := ?_) 12 (some 170) ?_
       refine pq_ (v := ?_) (b := ?_) (m := ?_) 13 (some 171) ?_
       refine done_ (by kernel_rfl) ?_
       clear hbq C_x1 C_x0
       by_cases hcv : cv < 0
       ·have kc := decide_eq_true hcv
        have LT := aS_ (LB.out.symm.trans kc)
        clear hcv LB
        simp only [kc]
        go_wp2
        go_roundg k1
        case measure => exact Nat.lt_succ_self _
        case rel => exact ⟨_, _, i, h, rfl, rfl, hi, ⟨w2_.trans Z_hz.out⟩, ⟨by have := HR.out; have := RNG.out; omega⟩, ⟨by have := HR.out; have := hk.out; omega⟩, LO, ⟨.inr (by rw [← X_x1.out, ← X_x0.out]; exact LT.out)⟩, SR⟩
       ·have kc := decide_eq_false hcv
        have LT := aS_ (LB.out.symm.trans kc)
        clear hcv LB
        simp only [kc]
        go_wp2
        go_roundg k1
        case measure => exact Nat.lt_succ_self _
        case rel => exact ⟨_, _, h + 1, j, rfl, rfl, ⟨by have := Z_hz.out; omega⟩, hj, ⟨by have := HR.out; have := RNG.out; omega⟩, ⟨by have := HR.out; have := hk.out; omega⟩, ⟨.inr (by rw [Nat.add_sub_cancel, show n - (h + 1) = n - 1 - h by omega, ← X_x1.out, ← X_x0.out]; exact LT.out)⟩, HI, SR⟩
      ·have cnd : decide (iz < jz) = false := decide_eq_false (by have := hi.out; have := hj.out; omega)
       have EQ := aS_ (show i = j by have := RNG.out; omega)
       clear hle hk
       have SA := aS_ (SymAt.mk (lt := lt) ham.out hmb.out H_mid.out NN.out LH.out (by have := RNG.out; omega : lo ≤ i ∧ i ≤ hi0) LO.out (by rw [EQ.out]; exact HI.out) hbd.out hS1.out hS2.out)
       have PL := aS_ SA.out.pl
       obtain ⟨endz, hendz⟩ : ∃ endz : Int, endz = nz - iz := ⟨_, rfl⟩
       have EN := aS_ (show endz = ((n - i : Nat) : Int) by have := NZ.out; have := hi.out; have := PL.out; omega)
       have wen_ : wrap64 (nz - iz) = endz := by have := NZ.out; have := hi.out; have := PL.out; have := EN.out; have := hbd.out; have := hsz.out; unfold wrap64; omega
       clear hendz LO HI LH RNG EQ
       go_upto_region 39 with (fail)
       (try simp only [wen_, wd_, we_, w1_, w2_, wn_])
       go_cut [185] from 178 to 185 (fun s_ wc => ∃ (c1 : Bool), s_ = .bool c1 ∧ Aside0 (c1 = true ↔ (i < m ∧ m < n - i)) ∧ Aside0 (SrC E kb ko w g tl d wc))
       case first =>
        by_cases ha_ : i < m
        ·by_cases hb_ : m < n - i
         ·have t1_ : decide (iz < mz) = true := decide_eq_true (by have := hi.out; have := hmz.out; omega)
          have T1 := aS_ ha_
          have t2_ : decide (mz < endz) = true := decide_eq_true (by have := EN.out; have := hmz.out; omega)
          have T2 := aS_ hb_
          clear ha_ hb_
          go_wp2
          go_meet
          exact ⟨true, rfl, ⟨⟨fun _ => ⟨T1.out, T2.out⟩, fun _ => rfl⟩⟩, SR⟩
         ·have t1_ : decide (iz < mz) = true := decide_eq_true (by have := hi.out; have := hmz.out; omega)
          have T1 := aS_ ha_
          have t2_ : decide (mz < endz) = false := decide_eq_false (by have := EN.out; have := hmz.out; omega)
          have T2 := aS_ hb_
          clear ha_ hb_
          go_wp2
          go_meet
          exact ⟨false, rfl, ⟨⟨fun h => absurd h (by decide), fun h => absurd h.2 T2.out⟩⟩, SR⟩
        ·have t1_ : decide (iz < mz) = false := decide_eq_false (by have := hi.out; have := hmz.out; omega)
         have T1 := aS_ ha_
         clear ha_
         go_wp2
         go_meet
         exact ⟨false, rfl, ⟨⟨fun h => absurd h (by decide), fun h => absurd h.1 T1.out⟩⟩, SR⟩
       case rest =>
        clear SR
        obtain ⟨c1, rfl, C1, SR⟩ := hcut
        go_upto_if 185 with (fail)
        go_cut [24] from 186 to 191 (fun s_ wc => ∃ (d1 : Array α), s_ = .int .i64 endz ∧ Aside0 (RotR i m (n - i) d d1) ∧ Aside0 (SrC E kb ko w g tl d1 wc))
        case first =>
         cases c1
         ·go_wp2
          go_meet
          exact ⟨d, rfl, ⟨RotR.same (by have := PL.out; omega) (by have := PL.out; omega) (by have h_ := C1.out; simp only [Bool.false_eq_true, false_iff, not_and, Nat.not_lt] at h_; by_cases c : i < m; exact .inr (h_ c); exact .inl (by omega))⟩, SR⟩
         ·go_wp2_with (first | (go_at_call 77; refine (rotateFC.calls _ g cap tl d (.func (.func F) #[] lb) i m (n - i) _ _ _ hi hmz EN ⟨SR.out.self⟩ ⟨(C1.out.1 rfl).1⟩ ⟨(C1.out.1 rfl).2⟩ ⟨by have := PL.out; have := hbd.out; omega⟩ hsz).mono ?_; rintro e w1 ⟨rfl, d1, hrot, hr⟩; have RT := aS_ hrot; have SR_ := aS_ (SR.out.then_ hr); clear SR hr hrot; have SR := SR_; clear SR_))
          go_meet
          exact ⟨d1, rfl, RT, SR⟩
        case rest =>
         clear SR
         obtain ⟨d1, rfl, RT, SR⟩ := hcut
         have HV := aS_ (SA.out.halves CF.swo RT.out)
         have ST1 := aS_ (SA.out.stab CF.swo RT.out)
         have HD1 := aS_ ST1.out.size
         go_upto_region 41 with (fail)
         (try simp only [wen_, wd_, we_, w1_, w2_, wn_])
         go_cut [199] from 192 to 199 (fun s_ wc => ∃ (c2 : Bool), s_ = .bool c2 ∧ Aside0 (c2 = true ↔ (a < i ∧ i < mid)) ∧ Aside0 (SrC E kb ko w g tl d1 wc))
         case first =>
          by_cases ha_ : a < i
          ·by_cases hb_ : i < mid
           ·have t1_ : decide (az < iz) = true := decide_eq_true (by have := hi.out; have := haz.out; omega)
            have T1 := aS_ ha_
            have t2_ : decide (iz < midz) = true := decide_eq_true (by have := hi.out; have := Z_midz.out; omega)
            have T2 := aS_ hb_
            clear ha_ hb_
            go_wp2
            go_meet
            exact ⟨true, rfl, ⟨⟨fun _ => ⟨T1.out, T2.out⟩, fun _ => rfl⟩⟩, SR⟩
           ·have t1_ : decide (az < iz) = true := decide_eq_true (by have := hi.out; have := haz.out; omega)
            have T1 := aS_ ha_
            have t2_ : decide (iz < midz) = false := decide_eq_false (by have := hi.out; have := Z_midz.out; omega)
            have T2 := aS_ hb_
            clear ha_ hb_
            go_wp2
            go_meet
            exact ⟨false, rfl, ⟨⟨fun h => absurd h (by decide), fun h => absurd h.2 T2.out⟩⟩, SR⟩
          ·have t1_ : decide (az < iz) = false := decide_eq_false (by have := hi.out; have := haz.out; omega)
           have T1 := aS_ ha_
           clear ha_
           go_wp2
           go_meet
           exact ⟨false, rfl, ⟨⟨fun h => absurd h (by decide), fun h => absurd h.1 T1.out⟩⟩, SR⟩
         case rest =>
          clear SR
          obtain ⟨c2, rfl, C2, SR⟩ := hcut
          go_upto_if 199 with (fail)
          go_cut [24] from 200 to 205 (fun s_ wc => ∃ (d2 : Array α), s_ = .int .i64 endz ∧ Aside0 (Stab lt a mid d1 d2) ∧ Aside0 (SortedIn lt a mid d2) ∧ Aside0 (SrC E kb ko w g tl d2 wc))
          case first =>
           cases c2
           ·go_wp2
            go_meet
            exact ⟨d1, rfl, ⟨Stab.refl _ _ _⟩, ⟨half_done HV.out.p1 HV.out.p2 (by have h_ := C2.out; simp only [Bool.false_eq_true, false_iff, not_and, Nat.not_lt] at h_; by_cases c : a < i; exact .inr (h_ c); exact .inl (by omega))⟩, SR⟩
           ·go_wp2_with (first | (go_at_call 71; have h_ := ih _ g cap tl d1 a i mid _ _ _ haz hi Z_midz ⟨SR.out.self⟩ ⟨(C2.out.1 rfl).1⟩ ⟨(C2.out.1 rfl).2⟩ ⟨by rw [HD1.out]; have := PL.out; have := hbd.out; omega⟩ ⟨HV.out.p1⟩ ⟨HV.out.p2⟩ ⟨by rw [HD1.out]; exact hsz.out⟩ (by have := PL.out; have := hN.out; have := H_mid.out; have := ham.out; have := hmb.out; have := L2.out; omega); rw [HD1.out] at h_; refine h_.mono ?_; clear h_; rintro e w1 ⟨rfl, d2, hst, hso, hr⟩; have ST2 := aS_ hst; have SO2 := aS_ hso; clear hst hso; have SR_ := aS_ (SR.out.then_ hr); clear SR hr; have SR := SR_; clear SR_))
            go_meet
            exact ⟨d2, rfl, ST2, SO2, SR⟩
          case rest =>
           clear SR
           obtain ⟨d2, rfl, ST2, SO2, SR⟩ := hcut
           have HD2 := aS_ (ST2.out.size.trans HD1.out)
           have Q3 := aS_ (scong (d' := d2) HV.out.p3 fun p h1 h2 => ST2.out.out p (by omega))
           have Q4 := aS_ (scong (d' := d2) HV.out.p4 fun p h1 h2 => ST2.out.out p (by have := PL.out; omega))
           go_upto_region 43 with (fail)
           (try simp only [wen_, wd_, we_, w1_, w2_, wn_])
           go_cut [213] from 206 to 213 (fun s_ wc => ∃ (c3 : Bool), s_ = .bool c3 ∧ Aside0 (c3 = true ↔ (mid < n - i ∧ n - i < b)) ∧ Aside0 (SrC E kb ko w g tl d2 wc))
           case first =>
            by_cases ha_ : mid < n - i
            ·by_cases hb_ : n - i < b
             ·have t1_ : decide (midz < endz) = true := decide_eq_true (by have := EN.out; have := Z_midz.out; omega)
              have T1 := aS_ ha_
              have t2_ : decide (endz < bz) = true := decide_eq_true (by have := EN.out; have := hbz.out; omega)
              have T2 := aS_ hb_
              clear ha_ hb_
              go_wp2
              go_meet
              exact ⟨true, rfl, ⟨⟨fun _ => ⟨T1.out, T2.out⟩, fun _ => rfl⟩⟩, SR⟩
             ·have t1_ : decide (midz < endz) = true := decide_eq_true (by have := EN.out; have := Z_midz.out; omega)
              have T1 := aS_ ha_
              have t2_ : decide (endz < bz) = false := decide_eq_false (by have := EN.out; have := hbz.out; omega)
              have T2 := aS_ hb_
              clear ha_ hb_
              go_wp2
              go_meet
              exact ⟨false, rfl, ⟨⟨fun h => absurd h (by decide), fun h => absurd h.2 T2.out⟩⟩, SR⟩
            ·have t1_ : decide (midz < endz) = false := decide_eq_false (by have := EN.out; have := Z_midz.out; omega)
             have T1 := aS_ ha_
             clear ha_
             go_wp2
             go_meet
             exact ⟨false, rfl, ⟨⟨fun h => absurd h (by decide), fun h => absurd h.1 T1.out⟩⟩, SR⟩
           case rest =>
            clear SR
            obtain ⟨c3, rfl, C3, SR⟩ := hcut
            cases c3
            ·go_wp2
             have HF := half_done Q3.out Q4.out (by have h_ := C3.out; simp only [Bool.false_eq_true, false_iff, not_and, Nat.not_lt] at h_; by_cases c : mid < n - i; exact .inr (h_ c); exact .inl (by omega))
             go_end0
             exact ⟨rfl, d2, (ST1.out.trans (ST2.out.mono (Nat.le_refl _) (by have := PL.out; omega))).trans ((Stab.refl mid b d2).mono (by have := PL.out; omega) (Nat.le_refl _)), sym_join HV.out.cross ST2.out SO2.out (Stab.refl mid b d2) HF, SR.out⟩
            ·go_wp2_with (first | (go_at_call 71; have h_ := ih _ g cap tl d2 mid (n - i) b _ _ _ Z_midz EN hbz ⟨SR.out.self⟩ ⟨(C3.out.1 rfl).1⟩ ⟨(C3.out.1 rfl).2⟩ ⟨by rw [HD2.out]; have := PL.out; have := hbd.out; omega⟩ ⟨Q3.out⟩ ⟨Q4.out⟩ ⟨by rw [HD2.out]; exact hsz.out⟩ (by have := PL.out; have := hN.out; have := H_mid.out; have := ham.out; have := hmb.out; have := L2.out; omega); rw [HD2.out] at h_; refine h_.mono ?_; clear h_; rintro e w1 ⟨rfl, d3, hst, hso, hr⟩; have ST3 := aS_ hst; have SO3 := aS_ hso; clear hst hso; have SR_ := aS_ (SR.out.then_ hr); clear SR hr; have SR := SR_; clear SR_))
             go_end0
             exact ⟨rfl, d3, (ST1.out.trans (ST2.out.mono (Nat.le_refl _) (by have := PL.out; omega))).trans (ST3.out.mono (by have := PL.out; omega) (Nat.le_refl _)), sym_join HV.out.cross ST2.out SO2.out ST3.out SO3.out, SR.out⟩
theorem symMergeFC.calls {α : Type} [Inhabited α] {E : RcC α} {kb : Nat} {ko : Obj} {lt : α → α → Bool} {F : FuncId} {lb : Array Value} (CF : CmpC E kb ko lt F lb) : ∀ k, SymCallsC E kb ko lt F lb k
 | 0 => fun w g cap tl d a m b az mz bz _ _ _ _ _ _ _ _ _ _ h => absurd h (Nat.not_lt_zero _)
 | k + 1 => sym_stepC CF k (symMergeFC.calls CF k)
end Go.Proofs.Ytfmjgjfbnilpoaa.FAll
