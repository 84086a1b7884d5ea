/-
 slices.swapRangeCmpFunc at structs: two blocks change places.
-/
import Derived.Test.YtfmjgjfbnilpoaaZq
import Derived.Test.YtfmjgjfbnilpoaaCa
namespace Go.Proofs.Ytfmjgjfbnilpoaa.FAll
open Go.RowKit Go.Sort YtfmjgjfbnilpoaaW.PrintWords YtfmjgjfbnilpoaaW.PrintLast YtfmjgjfbnilpoaaW.PrintMore
set_option linter.unusedVariables false
set_option linter.unusedSimpArgs false
set_option maxHeartbeats 16000000 in
set_option maxRecDepth 100000 in
theorem swapRangeFC.calls {α : Type} [Inhabited α] {E : RcC α} {kb : Nat} {ko : Obj} (w : World) (g cap : Nat) (tl : List Value) (d : Array α) (cmpv : Value) (a b n : Nat) (az bz nz : Int) (haz : Aside0 (az = a)) (hbz : Aside0 (bz = b)) (hnz : Aside0 (nz = n)) (hR : Aside0 (SrC E kb ko w g tl d w)) (hab : Aside0 (a + n ≤ b)) (hbd : Aside0 (b + n ≤ d.size)) (hsz : Aside0 (d.size ≤ 1152921504606846976)) :
  Calls Try.prog 80 #[.slice (some ⟨g, 0, none⟩) d.size cap, .int .i64 az, .int .i64 bz, .int .i64 nz, cmpv] w fun e w' => e = .returned (.tuple #[]) ∧ ∃ d', SwapR a b n d d' ∧ SrC E kb ko w g tl d' w' := by
 go_enter Try.func80, Try.ntmps80
 go_wp2
 go_loopg [10] (n + 1) (fun kq v10 w' => ∃ (iz : Int) (i : Nat) (dj : Array α), v10 = .int .i64 iz ∧ Aside0 (iz = i) ∧ Aside0 (n - i < kq ∧ i ≤ n) ∧ Aside0 (SwapR a b i d dj) ∧ Aside0 (SrC E kb ko w g tl dj w'))
 case atStart => exact ⟨_, 0, d, rfl, ⟨rfl⟩, ⟨by omega⟩, ⟨SwapR.zero a b d⟩, hR⟩
 case round =>
  clear hR
  obtain ⟨iz, i, dj, rfl, hi, hk, SW, SR⟩ := hrel
  cases gk with
  | zero => exact absurd hk.out (by omega)
  | succ k1 =>
   by_cases hle : i < n
   ·have cnd : decide (iz < nz) = true := decide_eq_true (by have := hi.out; have := hnz.out; omega)
    have LE := aS_ hle
    have h1_ := hi.out
    have h2_ := haz.out
    have h3_ := hbz.out
    have h4_ := hab.out
    have h5_ := hbd.out
    have h6_ := hsz.out
    obtain ⟨p, hp⟩ : ∃ p : Int, p = az + iz := ⟨_, rfl⟩
    obtain ⟨q, hq⟩ : ∃ q : Int, q = bz + iz := ⟨_, rfl⟩
    have wi_ : wrap64 (iz + 1) = iz + 1 := by unfold wrap64; omega
    have wp_ : wrap64 (az + iz) = p := by unfold wrap64; omega
    have wq_ : wrap64 (bz + iz) = q := by unfold wrap64; omega
    have P_p := aS_ (⟨by omega, by omega⟩ : p.toNat = a + i ∧ a + i < d.size)
    have n1_p := eq_true (show 0 ≤ p by omega)
    have n2_p := eq_true (show p < (d.size : Int) by omega)
    have P_q := aS_ (⟨by omega, by omega⟩ : q.toNat = b + i ∧ b + i < d.size)
    have n1_q := eq_true (show 0 ≤ q by omega)
    have n2_q := eq_true (show q < (d.size : Int) by omega)
    have hs := aS_ SW.out.size
    clear h1_ h2_ h3_ h4_ h5_ h6_ hle hp hq
    obtain ⟨x1, hx1⟩ : ∃ x1, x1 = dj[a + i]! := ⟨_, rfl⟩
    have X_x1 := aS_ hx1
    clear hx1
    have C_x1 := aS_ (show AtC E wr.drew g (p.toNat * 5) x1 by rw [P_p.out.1, X_x1.out]; exact SR.out.drew.at_ (a + i) (by rw [hs.out]; exact P_p.out.2))
    obtain ⟨x0, hx0⟩ : ∃ x0, x0 = dj[b + i]! := ⟨_, rfl⟩
    have X_x0 := aS_ hx0
    clear hx0
    have C_x0 := aS_ (show AtC E wr.drew g (q.toNat * 5) x0 by rw [P_q.out.1, X_x0.out]; exact SR.out.drew.at_ (b + i) (by rw [hs.out]; exact P_q.out.2))
    go_wp2
    refine start_ (n := 24) (S := fun w' => AtC E w' g (p.toNat * 5) x1 ∧ AtC E w' g (q.toNat * 5) x0) (ds := [21, 23]) #[false, false, false, false, false, false, false, false, false, false, false, false, false, false, false, false, false, false, false, false, false, false, false, false] (by kernel_rfl) rfl rfl ⟨C_x1.out, C_x0.out⟩ (fun hHeld => ?_)
    refine pq_ (v := ?_) (b := ?_) (m := ?_) 0 (some 16) ?_
    refine pq_ (v := ?_) (b := ?_) (m := ?_) 1 (some 17) ?_
    refine pq_ (v := ?_) (b := ?_) (m := ?_) 2 (some 18) ?_
    refine pq_ (v := ?_) (b := ?_) (m := ?_) 3 (some 19) ?_
    refine pq_ (v := ?_) (b := ?_) (m := ?_) 4 (some 20) ?_
    refine pq_ (v := ?_) (b := ?_) (m := ?_) 5 (some 21) ?_
    refine pq_ (v := ?_) (b := ?_) (m := ?_) 6 (some 22) ?_
    refine pq_ (v := ?_) (b := ?_) (m := ?_) 7 (some 23) ?_
    refine pq_ (v := ?_) (b := ?_) (m := ?_) 8 (some 24) ?_
    refine pq_ (v := ?_) (b := ?_) (m := ?_) 9 (some 25) ?_
    refine pq_ (v := ?_) (b := ?_) (m := ?_) 10 (some 26) ?_
    refine pq_ (v := ?_) (b := ?_) (m := ?_) 11 (some 27) ?_
    refine pq_ (v := ?_) (b := ?_) (m := ?_) 12 (some 28) ?_
    refine pq_ (v := ?_) (b := ?_) (m := ?_) 14 (some 30) ?_
    refine pq_ (v := ?_) (b := ?_) (m := ?_) 15 (some 31) ?_
    refine pq_ (v := ?_) (b := ?_) (m := ?_) 16 (some 32) ?_
    refine pq_ (v := ?_) (b := ?_) (m := ?_) 17 (some 33) ?_
    refine pq_ (v := ?_) (b := ?_) (m := ?_) 18 (some 34) ?_
    refine tq_ (v := ?_) (b := ?_) (m := ?_) 13 (some 29) hHeld ?_
    refine tq_ (v := ?_) (b := ?_) (m := ?_) 19 (some 35) hHeld ?_
    refine pq_ (v := ?_) (b := ?_) (m := ?_) 20 (some 36) ?_
    refine lq_ (m := ?_) 21 none fun K hK => ?_
    refine SrC.store_ SR.out.drew p.toNat (by rw [P_p.out.1, hs.out]; exact P_p.out.2) x0 (by rfl) rfl rfl (by rfl) (by rfl) ?_
    intro w8_ hs8_
    refine hK.out _ _ ?_
    clear hK K
    refine pq_ (v := ?_) (b := ?_) (m := ?_) 22 (some 37) ?_
    refine lq_ (m := ?_) 23 none fun K hK => ?_
    refine SrC.store_ hs8_ q.toNat (by rw [Array.size_setIfInBounds, hs.out, P_q.out.1]; exact P_q.out.2) x1 (by rfl) rfl rfl (by rfl) (by rfl) ?_
    intro w9_ hs9_
    refine hK.out _ _ ?_
    clear hK K
    refine done_ (by kernel_rfl) ?_
    have SW_ := aS_ (show SrC E kb ko w g tl (swp dj (a + i) (b + i)) w9_ by rw [P_p.out.1, P_q.out.1, X_x1.out, X_x0.out] at hs9_; exact hs9_)
    clear SR hs8_ hs9_ C_x1 C_x0
    have SR := SW_
    clear SW_
    go_wp2
    go_roundg k1
    case measure => exact Nat.lt_succ_self _
    case rel => exact ⟨_, i + 1, swp dj (a + i) (b + i), rfl, ⟨by have := hi.out; omega⟩, ⟨by have := hk.out; have := LE.out; omega⟩, ⟨SW.out.step (by have := hab.out; have := LE.out; omega) P_q.out.2⟩, SR⟩
   ·have cnd : decide (iz < nz) = false := decide_eq_false (by have := hi.out; have := hnz.out; omega)
    have LE := aS_ (show i = n by have := hk.out; omega)
    clear hle
    go_wp2
    go_end0
    exact ⟨rfl, dj, by rw [← LE.out]; exact SW.out, SR.out⟩
end Go.Proofs.Ytfmjgjfbnilpoaa.FAll
/-
 slices.rotateCmpFunc at structs: two neighbouring blocks, one in the other's place.
-/
namespace Go.Proofs.Ytfmjgjfbnilpoaa.FAll
open Go.RowKit Go.Sort YtfmjgjfbnilpoaaW.PrintWords YtfmjgjfbnilpoaaW.PrintLast YtfmjgjfbnilpoaaW.PrintMore
set_option linter.unusedVariables false
set_option linter.unusedSimpArgs false
/-- What is left to be turned, and that then all is. -/
structure RotI {α : Type} [Inhabited α] (a m b i j : Nat) (d dj : Array α) : Prop where
 fin : ∀ T, RotR (m - i) m (m + j) dj T → RotR a m b d T
theorem RotI.start {α : Type} [Inhabited α] {a m b : Nat} {d : Array α} (h1 : a < m) (h2 : m < b) : RotI a m b (m - a) (b - m) d d := ⟨fun T h => by
 rw [show m - (m - a) = a by omega, show m + (b - m) = b by omega] at h
 exact h⟩
theorem RotI.left {α : Type} [Inhabited α] {a m b i j : Nat} {d dj d2 : Array α} (h : RotI a m b i j d dj) (hi : i ≤ m) (hij : j < i) (hs : SwapR (m - i) m j dj d2) : RotI a m b (i - j) j d d2 := ⟨fun T hT => h.fin T (rot_left hi hij hs hT)⟩
theorem RotI.right {α : Type} [Inhabited α] {a m b i j : Nat} {d dj d2 : Array α} (h : RotI a m b i j d dj) (hi : i ≤ m) (hij : i < j) (hs : SwapR (m - i) (m + j - i) i dj d2) : RotI a m b i (j - i) d d2 := ⟨fun T hT => h.fin T (rot_right hi hij hs hT)⟩
theorem RotI.done {α : Type} [Inhabited α] {a m b i j : Nat} {d dj d2 : Array α} (h : RotI a m b i j d dj) (hi : i ≤ m) (hij : i = j) (hs : SwapR (m - i) m i dj d2) : RotR a m b d d2 := by
 subst hij
 exact h.fin _ (rot_same hi hs)
set_option maxHeartbeats 16000000 in
set_option maxRecDepth 100000 in
theorem rotateFC.calls {α : Type} [Inhabited α] {E : RcC α} {kb : Nat} {ko : Obj} (w : World) (g cap : Nat) (tl : List Value) (d : Array α) (cmpv : Value) (a m b : Nat) (az mz bz : Int) (haz : Aside0 (az = a)) (hmz : Aside0 (mz = m)) (hbz : Aside0 (bz = b)) (hR : Aside0 (SrC E kb ko w g tl d w)) (ham : Aside0 (a < m)) (hmb : Aside0 (m < b)) (hbd : Aside0 (b ≤ d.size)) (hsz : Aside0 (d.size ≤ 1152921504606846976)) :
  Calls Try.prog 77 #[.slice (some ⟨g, 0, none⟩) d.size cap, .int .i64 az, .int .i64 mz, .int .i64 bz, cmpv] w fun e w' => e = .returned (.tuple #[]) ∧ ∃ d', RotR a m b d d' ∧ SrC E kb ko w g tl d' w' := by
 obtain ⟨iz0, hiz0⟩ : ∃ iz0 : Int, iz0 = mz - az := ⟨_, rfl⟩
 obtain ⟨jz0, hjz0⟩ : ∃ jz0 : Int, jz0 = bz - mz := ⟨_, rfl⟩
 have h1_ := haz.out
 have h2_ := hmz.out
 have h3_ := hbz.out
 have h4_ := ham.out
 have h5_ := hmb.out
 have h6_ := hbd.out
 have h7_ := hsz.out
 have I0 := aS_ (show iz0 = ((m - a : Nat) : Int) by omega)
 have J0 := aS_ (show jz0 = ((b - m : Nat) : Int) by omega)
 have wi_ : wrap64 (mz - az) = iz0 := by unfold wrap64; omega
 have wj_ : wrap64 (bz - mz) = jz0 := by unfold wrap64; omega
 clear h1_ h2_ h3_ h4_ h5_ h6_ h7_ hiz0 hjz0
 go_enter Try.func77, Try.ntmps77
 go_wp2
 simp only [wi_, wj_]
 go_loopg [10, 11] (m - a + (b - m) + 1) (fun kq v10 v11 w' => ∃ (iz jz : Int) (i j : Nat) (dj : Array α), v10 = .int .i64 iz ∧ v11 = .int .i64 jz ∧ Aside0 (iz = i) ∧ Aside0 (jz = j) ∧ Aside0 (0 < i ∧ 0 < j ∧ i ≤ m - a ∧ j ≤ b - m) ∧ Aside0 (i + j < kq) ∧ RotI a m b i j d dj ∧ Aside0 (dj.size = d.size) ∧ Aside0 (SrC E kb ko w g tl dj w'))
 case atStart => exact ⟨_, _, m - a, b - m, d, rfl, rfl, I0, J0, ⟨by have := ham.out; have := hmb.out; omega⟩, ⟨by omega⟩, RotI.start ham.out hmb.out, ⟨rfl⟩, hR⟩
 case round =>
  clear hR
  obtain ⟨iz, jz, i, j, dj, rfl, rfl, hi, hj, RNG, hk, RI, HD, SR⟩ := hrel
  cases gk with
  | zero => exact absurd hk.out (by omega)
  | succ k1 =>
   have h1_ := hi.out
   have h2_ := hj.out
   have h3_ := hmz.out
   have h4_ := RNG.out
   have h5_ := hbd.out
   have h6_ := hsz.out
   have h7_ := hmb.out
   obtain ⟨pz, hpz⟩ : ∃ pz : Int, pz = mz - iz := ⟨_, rfl⟩
   have PZ := aS_ (show pz = ((m - i : Nat) : Int) by omega)
   have wp_ : wrap64 (mz - iz) = pz := by unfold wrap64; omega
   obtain ⟨qz, hqz⟩ : ∃ qz : Int, qz = mz + jz := ⟨_, rfl⟩
   have wq_ : wrap64 (mz + jz) = qz := by unfold wrap64; omega
   obtain ⟨rz, hrz⟩ : ∃ rz : Int, rz = qz - iz := ⟨_, rfl⟩
   have RZ := aS_ (show rz = ((m + j - i : Nat) : Int) by omega)
   have wr_ : wrap64 (qz - iz) = rz := by unfold wrap64; omega
   have wij_ : wrap64 (iz - jz) = iz - jz := by unfold wrap64; omega
   have wji_ : wrap64 (jz - iz) = jz - iz := by unfold wrap64; omega
   clear h1_ h2_ h3_ h4_ h5_ h6_ h7_ hpz hqz hrz
   by_cases hij : i = j
   ·have c1 : (iz == jz) = true := by rw [beq_iff_eq]; have := hi.out; have := hj.out; omega
    have c2 : (iz != jz) = false := by rw [bne_eq_false_iff_eq]; have := hi.out; have := hj.out; omega
    have c3 : decide (iz = jz) = true := decide_eq_true (by have := hi.out; have := hj.out; omega)
    have EQ := aS_ hij
    clear hij
    go_wp2_with (first | (go_at_call 80; have h_ := swapRangeFC.calls _ g cap tl dj cmpv (m - i) (m) (i) _ _ _ PZ hmz hi ⟨SR.out.self⟩ ⟨by have := RNG.out; have := EQ.out; omega⟩ ⟨by rw [HD.out]; have := RNG.out; have := EQ.out; have := hbd.out; have := hmb.out; omega⟩ ⟨by rw [HD.out]; exact hsz.out⟩; rw [HD.out] at h_; refine h_.mono ?_; clear h_; rintro e w1 ⟨rfl, d2, hw2, hr⟩; have SW := aS_ hw2; have SR_ := aS_ (SR.out.then_ hr); clear SR hr hw2; have SR := SR_; clear SR_))
    go_end0
    exact ⟨rfl, d2, RI.done (by have := RNG.out; omega) EQ.out SW.out, SR.out⟩
   ·have c1 : (iz == jz) = false := by rw [beq_eq_false_iff_ne]; have := hi.out; have := hj.out; omega
    have c2 : (iz != jz) = true := by rw [bne_iff_ne]; have := hi.out; have := hj.out; omega
    have c3 : decide (iz = jz) = false := decide_eq_false (by have := hi.out; have := hj.out; omega)
    by_cases hgt : j < i
    ·have cg : decide (iz > jz) = true := decide_eq_true (by have := hi.out; have := hj.out; omega)
     have GT := aS_ hgt
     clear hgt hij
     go_wp2_with (first | (go_at_call 80; have h_ := swapRangeFC.calls _ g cap tl dj cmpv (m - i) (m) (j) _ _ _ PZ hmz hj ⟨SR.out.self⟩ ⟨by have := RNG.out; have := GT.out; omega⟩ ⟨by rw [HD.out]; have := RNG.out; have := GT.out; have := hbd.out; have := hmb.out; omega⟩ ⟨by rw [HD.out]; exact hsz.out⟩; rw [HD.out] at h_; refine h_.mono ?_; clear h_; rintro e w1 ⟨rfl, d2, hw2, hr⟩; have SW := aS_ hw2; have SR_ := aS_ (SR.out.then_ hr); clear SR hr hw2; have SR := SR_; clear SR_))
     go_roundg k1
     case measure => exact Nat.lt_succ_self _
     case rel => exact ⟨_, _, i - j, j, d2, rfl, rfl, ⟨by have := hi.out; have := hj.out; have := GT.out; omega⟩, hj, ⟨by have := RNG.out; have := GT.out; omega⟩, ⟨by have := hk.out; have := RNG.out; have := GT.out; omega⟩, RI.left (by have := RNG.out; omega) GT.out SW.out, ⟨SW.out.size.trans HD.out⟩, SR⟩
    ·have cg : decide (iz > jz) = false := decide_eq_false (by have := hi.out; have := hj.out; omega)
     have LT := aS_ (show i < j by omega)
     clear hgt hij
     go_wp2_with (first | (go_at_call 80; have h_ := swapRangeFC.calls _ g cap tl dj cmpv (m - i) (m + j - i) (i) _ _ _ PZ RZ hi ⟨SR.out.self⟩ ⟨by have := RNG.out; have := LT.out; omega⟩ ⟨by rw [HD.out]; have := RNG.out; have := LT.out; have := hbd.out; have := hmb.out; omega⟩ ⟨by rw [HD.out]; exact hsz.out⟩; rw [HD.out] at h_; refine h_.mono ?_; clear h_; rintro e w1 ⟨rfl, d2, hw2, hr⟩; have SW := aS_ hw2; have SR_ := aS_ (SR.out.then_ hr); clear SR hr hw2; have SR := SR_; clear SR_))
     go_roundg k1
     case measure => exact Nat.lt_succ_self _
     case rel => exact ⟨_, _, i, j - i, d2, rfl, rfl, hi, ⟨by have := hi.out; have := hj.out; have := LT.out; omega⟩, ⟨by have := RNG.out; have := LT.out; omega⟩, ⟨by have := hk.out; have := RNG.out; have := LT.out; omega⟩, RI.right (by have := RNG.out; omega) LT.out SW.out, ⟨SW.out.size.trans HD.out⟩, SR⟩
end Go.Proofs.Ytfmjgjfbnilpoaa.FAll
