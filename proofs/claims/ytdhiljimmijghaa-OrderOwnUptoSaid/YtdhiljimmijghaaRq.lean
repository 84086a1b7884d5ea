/-
  slices.rotateCmpFunc at []float64: two neighbouring blocks, one in the other's place.
-/
import Derived.Test.YtdhiljimmijghaaWr
import Derived.Test.YtdhiljimmijghaaFw
namespace Go.Proofs.Ytdhiljimmijghaa.FAll
open Go.RowKit Go.Sort Go.Proofs.YtdhiljimmijghaaW.PrintWords Go.Proofs.YtdhiljimmijghaaW.PrintLast Go.Proofs.YtdhiljimmijghaaW.PrintMore
set_option linter.unusedVariables false
set_option linter.unusedSimpArgs false
attribute [local go_sem] fstore_walk   -- for this text's walks alone
/-- What is left to be turned, and that then all is. -/
structure RotI (a m b i j : Nat) (d dj : Array Nat) : Prop where
  fin : ∀ T, RotR (m - i) m (m + j) dj T → RotR a m b d T
theorem RotI.start {a m b : Nat} {d : Array Nat} (h1 : a < m) (h2 : m < b) : RotI a m b (m - a) (b - m) d d := ⟨fun T h => by
  rw [show m - (m - a) = a by omega, show m + (b - m) = b by omega] at h
  exact h⟩
theorem RotI.left {a m b i j : Nat} {d dj d2 : Array Nat} (h : RotI a m b i j d dj) (hi : i ≤ m) (hij : j < i) (hs : SwapR (m - i) m j dj d2) : RotI a m b (i - j) j d d2 := ⟨fun T hT => h.fin T (rot_left hi hij hs hT)⟩
theorem RotI.right {a m b i j : Nat} {d dj d2 : Array Nat} (h : RotI a m b i j d dj) (hi : i ≤ m) (hij : i < j) (hs : SwapR (m - i) (m + j - i) i dj d2) : RotI a m b i (j - i) d d2 := ⟨fun T hT => h.fin T (rot_right hi hij hs hT)⟩
theorem RotI.done {a m b i j : Nat} {d dj d2 : Array Nat} (h : RotI a m b i j d dj) (hi : i ≤ m) (hij : i = j) (hs : SwapR (m - i) m i dj d2) : RotR a m b d d2 := by
  subst hij
  exact h.fin _ (rot_same hi hs)
set_option maxHeartbeats 16000000 in
set_option maxRecDepth 100000 in
theorem rotateF.calls (w : World) (g cap : Nat) (tl : List Value) (d : Array Nat) (cmpv : Value) (a m b : Nat) (az mz bz : Int) (haz : Aside0 (az = a)) (hmz : Aside0 (mz = m)) (hbz : Aside0 (bz = b)) (hR : Aside0 (Srf w g tl d w)) (ham : Aside0 (a < m)) (hmb : Aside0 (m < b)) (hbd : Aside0 (b ≤ d.size)) (hsz : Aside0 (d.size ≤ 1152921504606846976)) :
    Calls Try.prog 50 #[.slice (some ⟨g, 0, none⟩) d.size cap, .int .i64 az, .int .i64 mz, .int .i64 bz, cmpv] w fun e w' => e = .returned (.tuple #[]) ∧ ∃ d', RotR a m b d d' ∧ Srf w g tl d' w' := by
  obtain ⟨iz0, hiz0⟩ : ∃ iz0 : Int, iz0 = mz - az := ⟨_, rfl⟩
  obtain ⟨jz0, hjz0⟩ : ∃ jz0 : Int, jz0 = bz - mz := ⟨_, rfl⟩
  have h1_ := haz.out
  have h2_ := hmz.out
  have h3_ := hbz.out
  have h4_ := ham.out
  have h5_ := hmb.out
  have h6_ := hbd.out
  have h7_ := hsz.out
  have I0 := Aside0.mk (show iz0 = ((m - a : Nat) : Int) by omega)
  have J0 := Aside0.mk (show jz0 = ((b - m : Nat) : Int) by omega)
  have wi_ : wrap64 (mz - az) = iz0 := by unfold wrap64; omega
  have wj_ : wrap64 (bz - mz) = jz0 := by unfold wrap64; omega
  clear h1_ h2_ h3_ h4_ h5_ h6_ h7_ hiz0 hjz0
  go_enter Try.func50, Try.ntmps50
  go_wp2
  simp only [wi_, wj_]
  go_loopg [10, 11] (m - a + (b - m) + 1) (fun kq v10 v11 w' => ∃ (iz jz : Int) (i j : Nat) (dj : Array Nat), v10 = .int .i64 iz ∧ v11 = .int .i64 jz ∧ Aside0 (iz = i) ∧ Aside0 (jz = j) ∧ Aside0 (0 < i ∧ 0 < j ∧ i ≤ m - a ∧ j ≤ b - m) ∧ Aside0 (i + j < kq) ∧ RotI a m b i j d dj ∧ Aside0 (dj.size = d.size) ∧ Aside0 (Srf w g tl dj w'))
  case atStart => exact ⟨_, _, m - a, b - m, d, rfl, rfl, I0, J0, ⟨by have := ham.out; have := hmb.out; omega⟩, ⟨by omega⟩, RotI.start ham.out hmb.out, ⟨rfl⟩, hR⟩
  case round =>
    clear hR
    obtain ⟨iz, jz, i, j, dj, rfl, rfl, hi, hj, RNG, hk, RI, HD, SR⟩ := hrel
    cases gk with
    | zero => exact absurd hk.out (by omega)
    | succ k1 =>
      have h1_ := hi.out
      have h2_ := hj.out
      have h3_ := hmz.out
      have h4_ := RNG.out
      have h5_ := hbd.out
      have h6_ := hsz.out
      have h7_ := hmb.out
      obtain ⟨pz, hpz⟩ : ∃ pz : Int, pz = mz - iz := ⟨_, rfl⟩
      have PZ := Aside0.mk (show pz = ((m - i : Nat) : Int) by omega)
      have wp_ : wrap64 (mz - iz) = pz := by unfold wrap64; omega
      obtain ⟨qz, hqz⟩ : ∃ qz : Int, qz = mz + jz := ⟨_, rfl⟩
      have wq_ : wrap64 (mz + jz) = qz := by unfold wrap64; omega
      obtain ⟨rz, hrz⟩ : ∃ rz : Int, rz = qz - iz := ⟨_, rfl⟩
      have RZ := Aside0.mk (show rz = ((m + j - i : Nat) : Int) by omega)
      have wr_ : wrap64 (qz - iz) = rz := by unfold wrap64; omega
      have wij_ : wrap64 (iz - jz) = iz - jz := by unfold wrap64; omega
      have wji_ : wrap64 (jz - iz) = jz - iz := by unfold wrap64; omega
      clear h1_ h2_ h3_ h4_ h5_ h6_ h7_ hpz hqz hrz
      by_cases hij : i = j
      · have c1 : (iz == jz) = true := by rw [beq_iff_eq]; have := hi.out; have := hj.out; omega
        have c2 : (iz != jz) = false := by rw [bne_eq_false_iff_eq]; have := hi.out; have := hj.out; omega
        have c3 : decide (iz = jz) = true := decide_eq_true (by have := hi.out; have := hj.out; omega)
        have EQ := Aside0.mk hij
        clear hij
        go_wp2_with (first | (go_at_call 56; have h_ := swapRangeF.calls _ g cap tl dj cmpv (m - i) (m) (i) _ _ _ PZ hmz hi ⟨SR.out.self⟩ ⟨by have := RNG.out; have := EQ.out; omega⟩ ⟨by rw [HD.out]; have := RNG.out; have := EQ.out; have := hbd.out; have := hmb.out; omega⟩ ⟨by rw [HD.out]; exact hsz.out⟩; rw [HD.out] at h_; refine h_.mono ?_; clear h_; rintro e w1 ⟨rfl, d2, hw2, hr⟩; have SW := Aside0.mk hw2; have SR_ := Aside0.mk (SR.out.then_ hr); clear SR hr hw2; have SR := SR_; clear SR_))
        go_end0
        exact ⟨rfl, d2, RI.done (by have := RNG.out; omega) EQ.out SW.out, SR.out⟩
      · have c1 : (iz == jz) = false := by rw [beq_eq_false_iff_ne]; have := hi.out; have := hj.out; omega
        have c2 : (iz != jz) = true := by rw [bne_iff_ne]; have := hi.out; have := hj.out; omega
        have c3 : decide (iz = jz) = false := decide_eq_false (by have := hi.out; have := hj.out; omega)
        by_cases hgt : j < i
        · have cg : decide (iz > jz) = true := decide_eq_true (by have := hi.out; have := hj.out; omega)
          have GT := Aside0.mk hgt
          clear hgt hij
          go_wp2_with (first | (go_at_call 56; have h_ := swapRangeF.calls _ g cap tl dj cmpv (m - i) (m) (j) _ _ _ PZ hmz hj ⟨SR.out.self⟩ ⟨by have := RNG.out; have := GT.out; omega⟩ ⟨by rw [HD.out]; have := RNG.out; have := GT.out; have := hbd.out; have := hmb.out; omega⟩ ⟨by rw [HD.out]; exact hsz.out⟩; rw [HD.out] at h_; refine h_.mono ?_; clear h_; rintro e w1 ⟨rfl, d2, hw2, hr⟩; have SW := Aside0.mk hw2; have SR_ := Aside0.mk (SR.out.then_ hr); clear SR hr hw2; have SR := SR_; clear SR_))
          go_roundg k1
          case measure => exact Nat.lt_succ_self _
          case rel => exact ⟨_, _, i - j, j, d2, rfl, rfl, ⟨by have := hi.out; have := hj.out; have := GT.out; omega⟩, hj, ⟨by have := RNG.out; have := GT.out; omega⟩, ⟨by have := hk.out; have := RNG.out; have := GT.out; omega⟩, RI.left (by have := RNG.out; omega) GT.out SW.out, ⟨SW.out.size.trans HD.out⟩, SR⟩
        · have cg : decide (iz > jz) = false := decide_eq_false (by have := hi.out; have := hj.out; omega)
          have LT := Aside0.mk (show i < j by omega)
          clear hgt hij
          go_wp2_with (first | (go_at_call 56; have h_ := swapRangeF.calls _ g cap tl dj cmpv (m - i) (m + j - i) (i) _ _ _ PZ RZ hi ⟨SR.out.self⟩ ⟨by have := RNG.out; have := LT.out; omega⟩ ⟨by rw [HD.out]; have := RNG.out; have := LT.out; have := hbd.out; have := hmb.out; omega⟩ ⟨by rw [HD.out]; exact hsz.out⟩; rw [HD.out] at h_; refine h_.mono ?_; clear h_; rintro e w1 ⟨rfl, d2, hw2, hr⟩; have SW := Aside0.mk hw2; have SR_ := Aside0.mk (SR.out.then_ hr); clear SR hr hw2; have SR := SR_; clear SR_))
          go_roundg k1
          case measure => exact Nat.lt_succ_self _
          case rel => exact ⟨_, _, i, j - i, d2, rfl, rfl, hi, ⟨by have := hi.out; have := hj.out; have := LT.out; omega⟩, ⟨by have := RNG.out; have := LT.out; omega⟩, ⟨by have := hk.out; have := RNG.out; have := LT.out; omega⟩, RI.right (by have := RNG.out; omega) LT.out SW.out, ⟨SW.out.size.trans HD.out⟩, SR⟩
end Go.Proofs.Ytdhiljimmijghaa.FAll
