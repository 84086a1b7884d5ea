/-
  At of a number's Key is the number (nought without a sign), Key of a key's At is the key, and Compare says what the language's own comparisons say. Conditions: none: every input that the statement speaks of.
  The frame of this proof was written by the kit's program proof-skeleton.mjs; the walk is ours.
-/
import Derived.Test.YtdjmdnppkchgmaaRows
import Derived.WalkKit
import Derived.Test.YtdjmdnppkchgmaaOy
import Derived.ProofKit
import Derived.OpenShut
namespace Go.Proofs.Ytdjmdnppkchgmaa.orderLine
open Go.ChangeShapes Go.WideShapes Go.ChangeAt Go.RowKit
set_option linter.unusedVariables false      -- a walk need not use every 'w<i>' (that an integer argument fits its kind)

theorem own : ownKnob Try.prog.godebug = none := by kernel_rfl


/-! ### STEP 1: THE WALK: the Go text returns true. 'Grown w w'': the world has at most new blocks (Derived/RowKit3.lean). Part the cases AHEAD of 'go_enter' where a test parts the walk; take each callee by a contract of your own. -/
set_option maxHeartbeats 1000000 in
theorem walk (a0 : Int) (a1 : Int) (a2 : Int) (w0 : (Lit.int .u64 a0).wf = true) (w1 : (Lit.int .u64 a1).wf = true) (w2 : (Lit.int .u64 a2).wf = true) (w : World) :
    Calls Try.prog 4 #[.int .u64 a0, .int .u64 a1, .int .u64 a2] w fun e w' => e = .returned (.bool true) ∧ Grown w w' := by
  obtain ⟨ha0, ha1⟩ := bounds_u64 w0
  obtain ⟨hb0, hb1⟩ := bounds_u64 w1
  obtain ⟨hk0, hk1⟩ := bounds_u64 w2
  obtain ⟨a, rfl⟩ := Int.eq_ofNat_of_zero_le ha0
  obtain ⟨b, rfl⟩ := Int.eq_ofNat_of_zero_le hb0
  have ha : a < 2 ^ 64 := by omega
  have hb : b < 2 ^ 64 := by omega
  clear w0 w1 w2
  have r1 := run_frombits
  have ka := fkey_bounds ha
  have kb := fkey_bounds hb
  have z64 : 0 < 2 ^ 64 := by omega
  by_cases hk : a2 ≤ 18437736874454810625
  · have hl : atBits a2 < 2 ^ 64 := atBits_lt a2 hk0 hk
    have hkk := Lib.hid (fkey_at a2 hk0 hk)
    have hkn : (a2 != a2) = false := by simp
    by_cases na : isNaN a = true
    · obtain ⟨v, hv64, hvk, hvn, hvz, hv⟩ := at_of a ha
      rw [na] at hvn
      have e1 := E1 ha ha (fEq_nan_l (b := a) na)
      have e2 := N1 ha ha (fEq_nan_l (b := a) na)
      have e3 := E1 hv64 hv64 (fEq_nan_l (b := v) hvn)
      have e4 := E1 hv64 z64 (fEq_nan_l (b := 0) hvn)
      have hv := Lib.hid hv
      have kna := fkey_nan na
      by_cases nb : isNaN b = true
      · have Hi := Lib.hid (show icmp (fkey a) (fkey b) = 0 by rw [kna, fkey_nan nb]; rfl)
        have e5 := N1 hb hb (fEq_nan_l (b := b) nb)
        have e6 := E1 hb hb (fEq_nan_l (b := b) nb)
        clear kna hvk hvn hvz na nb
        go_enter Try.func4, Try.ntmps4
        go_wp2_with fail
        refine (begins_any _).mono ?_
        rintro e w' ⟨rfl, rfl⟩
        go_wp2_with fail
        refine (key_any a ha _).mono ?_
        rintro e w' ⟨rfl, rfl⟩
        go_wp2_with fail
        refine (at_in _ ka.1 ka.2 _).mono ?_
        rintro e w' ⟨rfl, rfl⟩
        rw [hv.out]
        go_wp2_with fail
        refine (at_in a2 hk0 hk _).mono ?_
        rintro e w' ⟨rfl, rfl⟩
        go_wp2_with fail
        refine (key_any _ hl _).mono ?_
        rintro e w' ⟨rfl, rfl⟩
        rw [hkk.out]
        go_wp2_with fail
        refine (compare_any a b ha hb _).mono ?_
        rintro e w' ⟨rfl, rfl⟩
        rw [Hi.out]
        go_wp2_with fail
        go_ret
        exact ⟨rfl, Grown.refl _⟩
      · have nb : isNaN b = false := by simpa using nb
        have klt := fkey_le hb nb
        have Hi := Lib.hid (show icmp (fkey a) (fkey b) = 1 by rw [kna]; unfold icmp; rw [if_neg (by omega), if_pos (by omega)])
        have e5 := N1 hb hb (fEq_self b)
        have e6 := E1 hb hb (fEq_self b)
        rw [nb] at e5 e6
        clear kna hvk hvn hvz na nb
        go_enter Try.func4, Try.ntmps4
        go_wp2_with fail
        refine (begins_any _).mono ?_
        rintro e w' ⟨rfl, rfl⟩
        go_wp2_with fail
        refine (key_any a ha _).mono ?_
        rintro e w' ⟨rfl, rfl⟩
        go_wp2_with fail
        refine (at_in _ ka.1 ka.2 _).mono ?_
        rintro e w' ⟨rfl, rfl⟩
        rw [hv.out]
        go_wp2_with fail
        refine (at_in a2 hk0 hk _).mono ?_
        rintro e w' ⟨rfl, rfl⟩
        go_wp2_with fail
        refine (key_any _ hl _).mono ?_
        rintro e w' ⟨rfl, rfl⟩
        rw [hkk.out]
        go_wp2_with fail
        refine (compare_any a b ha hb _).mono ?_
        rintro e w' ⟨rfl, rfl⟩
        rw [Hi.out]
        go_wp2_with fail
        go_ret
        exact ⟨rfl, Grown.refl _⟩
    · have na : isNaN a = false := by simpa using na
      obtain ⟨v, hv64, hvk, hvn, hvz, hv⟩ := at_of a ha
      rw [na] at hvn
      have e1 := E1 ha ha (fEq_self a)
      have e2 := N1 ha ha (fEq_self a)
      rw [na] at e1 e2
      have e3 := N1 hv64 ha (fEq_key hvn na)
      rw [hvk] at e3
      simp only [decide_true, Bool.not_true] at e3
      have e4 := E1 hv64 z64 (fEq_key hvn nan_zero)
      rw [key_zero] at e4
      have hv := Lib.hid hv
      have klt := fkey_le ha na
      by_cases hz : fkey v = 9218868437227405312
      · obtain rfl := hvz hz
        rw [decide_eq_true hz] at e4
        clear hvz hz
        by_cases nb : isNaN b = true
        · have Hi := Lib.hid (show icmp (fkey a) (fkey b) = -1 by rw [fkey_nan nb]; unfold icmp; rw [if_pos (by omega)])
          have e5 := N1 hb hb (fEq_nan_l (b := b) nb)
          have e6 := E1 hb hb (fEq_nan_l (b := b) nb)
          clear hvk hvn na nb
          go_enter Try.func4, Try.ntmps4
          go_wp2_with fail
          refine (begins_any _).mono ?_
          rintro e w' ⟨rfl, rfl⟩
          go_wp2_with fail
          refine (key_any a ha _).mono ?_
          rintro e w' ⟨rfl, rfl⟩
          go_wp2_with fail
          refine (at_in _ ka.1 ka.2 _).mono ?_
          rintro e w' ⟨rfl, rfl⟩
          rw [hv.out]
          go_wp2_with fail
          refine (signbit_pos 0 (by omega) _).mono ?_
          rintro e w' ⟨rfl, rfl⟩
          go_wp2_with fail
          refine (at_in a2 hk0 hk _).mono ?_
          rintro e w' ⟨rfl, rfl⟩
          go_wp2_with fail
          refine (key_any _ hl _).mono ?_
          rintro e w' ⟨rfl, rfl⟩
          rw [hkk.out]
          go_wp2_with fail
          refine (compare_any a b ha hb _).mono ?_
          rintro e w' ⟨rfl, rfl⟩
          rw [Hi.out]
          go_wp2_with fail
          go_ret
          exact ⟨rfl, Grown.refl _⟩
        · have nb : isNaN b = false := by simpa using nb
          have e5 := N1 hb hb (fEq_self b)
          rw [nb] at e5
          have e6 := L1 ha hb (fLt_key na nb)
          have e7 := E1 ha hb (fEq_key na nb)
          have e8 := G1 ha hb (fLt_key nb na)
          rcases Int.lt_trichotomy (fkey a) (fkey b) with hc | hc | hc
          · have Hi := Lib.hid (show icmp (fkey a) (fkey b) = -1 by unfold icmp; rw [if_pos hc])
            have Hj := Lib.hid (show icmp (fkey b) (fkey a) = 1 by unfold icmp; rw [if_neg (by omega), if_pos hc])
            rw [decide_eq_true (by omega)] at e6
            rw [decide_eq_false (by omega)] at e7
            rw [decide_eq_false (by omega)] at e8
            clear hvk hvn na nb hc
            go_enter Try.func4, Try.ntmps4
            go_wp2_with fail
            refine (begins_any _).mono ?_
            rintro e w' ⟨rfl, rfl⟩
            go_wp2_with fail
            refine (key_any a ha _).mono ?_
            rintro e w' ⟨rfl, rfl⟩
            go_wp2_with fail
            refine (at_in _ ka.1 ka.2 _).mono ?_
            rintro e w' ⟨rfl, rfl⟩
            rw [hv.out]
            go_wp2_with fail
            refine (signbit_pos 0 (by omega) _).mono ?_
            rintro e w' ⟨rfl, rfl⟩
            go_wp2_with fail
            refine (at_in a2 hk0 hk _).mono ?_
            rintro e w' ⟨rfl, rfl⟩
            go_wp2_with fail
            refine (key_any _ hl _).mono ?_
            rintro e w' ⟨rfl, rfl⟩
            rw [hkk.out]
            go_wp2_with fail
            refine (compare_any a b ha hb _).mono ?_
            rintro e w' ⟨rfl, rfl⟩
            rw [Hi.out]
            go_wp2_with fail
            refine (compare_any b a hb ha _).mono ?_
            rintro e w' ⟨rfl, rfl⟩
            rw [Hj.out]
            go_wp2_with fail
            go_ret
            exact ⟨rfl, Grown.refl _⟩
          · have Hi := Lib.hid (show icmp (fkey a) (fkey b) = 0 by unfold icmp; rw [if_neg (by omega), if_neg (by omega)])
            have Hj := Lib.hid (show icmp (fkey b) (fkey a) = 0 by unfold icmp; rw [if_neg (by omega), if_neg (by omega)])
            rw [decide_eq_false (by omega)] at e6
            rw [decide_eq_true (by omega)] at e7
            rw [decide_eq_false (by omega)] at e8
            clear hvk hvn na nb hc
            go_enter Try.func4, Try.ntmps4
            go_wp2_with fail
            refine (begins_any _).mono ?_
            rintro e w' ⟨rfl, rfl⟩
            go_wp2_with fail
            refine (key_any a ha _).mono ?_
            rintro e w' ⟨rfl, rfl⟩
            go_wp2_with fail
            refine (at_in _ ka.1 ka.2 _).mono ?_
            rintro e w' ⟨rfl, rfl⟩
            rw [hv.out]
            go_wp2_with fail
            refine (signbit_pos 0 (by omega) _).mono ?_
            rintro e w' ⟨rfl, rfl⟩
            go_wp2_with fail
            refine (at_in a2 hk0 hk _).mono ?_
            rintro e w' ⟨rfl, rfl⟩
            go_wp2_with fail
            refine (key_any _ hl _).mono ?_
            rintro e w' ⟨rfl, rfl⟩
            rw [hkk.out]
            go_wp2_with fail
            refine (compare_any a b ha hb _).mono ?_
            rintro e w' ⟨rfl, rfl⟩
            rw [Hi.out]
            go_wp2_with fail
            refine (compare_any b a hb ha _).mono ?_
            rintro e w' ⟨rfl, rfl⟩
            rw [Hj.out]
            go_wp2_with fail
            go_ret
            exact ⟨rfl, Grown.refl _⟩
          · have Hi := Lib.hid (show icmp (fkey a) (fkey b) = 1 by unfold icmp; rw [if_neg (by omega), if_pos hc])
            have Hj := Lib.hid (show icmp (fkey b) (fkey a) = -1 by unfold icmp; rw [if_pos hc])
            rw [decide_eq_false (by omega)] at e6
            rw [decide_eq_false (by omega)] at e7
            rw [decide_eq_true (by omega)] at e8
            clear hvk hvn na nb hc
            go_enter Try.func4, Try.ntmps4
            go_wp2_with fail
            refine (begins_any _).mono ?_
            rintro e w' ⟨rfl, rfl⟩
            go_wp2_with fail
            refine (key_any a ha _).mono ?_
            rintro e w' ⟨rfl, rfl⟩
            go_wp2_with fail
            refine (at_in _ ka.1 ka.2 _).mono ?_
            rintro e w' ⟨rfl, rfl⟩
            rw [hv.out]
            go_wp2_with fail
            refine (signbit_pos 0 (by omega) _).mono ?_
            rintro e w' ⟨rfl, rfl⟩
            go_wp2_with fail
            refine (at_in a2 hk0 hk _).mono ?_
            rintro e w' ⟨rfl, rfl⟩
            go_wp2_with fail
            refine (key_any _ hl _).mono ?_
            rintro e w' ⟨rfl, rfl⟩
            rw [hkk.out]
            go_wp2_with fail
            refine (compare_any a b ha hb _).mono ?_
            rintro e w' ⟨rfl, rfl⟩
            rw [Hi.out]
            go_wp2_with fail
            refine (compare_any b a hb ha _).mono ?_
            rintro e w' ⟨rfl, rfl⟩
            rw [Hj.out]
            go_wp2_with fail
            go_ret
            exact ⟨rfl, Grown.refl _⟩
      · rw [decide_eq_false hz] at e4
        clear hvz hz
        by_cases nb : isNaN b = true
        · have Hi := Lib.hid (show icmp (fkey a) (fkey b) = -1 by rw [fkey_nan nb]; unfold icmp; rw [if_pos (by omega)])
          have e5 := N1 hb hb (fEq_nan_l (b := b) nb)
          have e6 := E1 hb hb (fEq_nan_l (b := b) nb)
          clear hvk hvn na nb
          go_enter Try.func4, Try.ntmps4
          go_wp2_with fail
          refine (begins_any _).mono ?_
          rintro e w' ⟨rfl, rfl⟩
          go_wp2_with fail
          refine (key_any a ha _).mono ?_
          rintro e w' ⟨rfl, rfl⟩
          go_wp2_with fail
          refine (at_in _ ka.1 ka.2 _).mono ?_
          rintro e w' ⟨rfl, rfl⟩
          rw [hv.out]
          go_wp2_with fail
          refine (at_in a2 hk0 hk _).mono ?_
          rintro e w' ⟨rfl, rfl⟩
          go_wp2_with fail
          refine (key_any _ hl _).mono ?_
          rintro e w' ⟨rfl, rfl⟩
          rw [hkk.out]
          go_wp2_with fail
          refine (compare_any a b ha hb _).mono ?_
          rintro e w' ⟨rfl, rfl⟩
          rw [Hi.out]
          go_wp2_with fail
          go_ret
          exact ⟨rfl, Grown.refl _⟩
        · have nb : isNaN b = false := by simpa using nb
          have e5 := N1 hb hb (fEq_self b)
          rw [nb] at e5
          have e6 := L1 ha hb (fLt_key na nb)
          have e7 := E1 ha hb (fEq_key na nb)
          have e8 := G1 ha hb (fLt_key nb na)
          rcases Int.lt_trichotomy (fkey a) (fkey b) with hc | hc | hc
          · have Hi := Lib.hid (show icmp (fkey a) (fkey b) = -1 by unfold icmp; rw [if_pos hc])
            have Hj := Lib.hid (show icmp (fkey b) (fkey a) = 1 by unfold icmp; rw [if_neg (by omega), if_pos hc])
            rw [decide_eq_true (by omega)] at e6
            rw [decide_eq_false (by omega)] at e7
            rw [decide_eq_false (by omega)] at e8
            clear hvk hvn na nb hc
            go_enter Try.func4, Try.ntmps4
            go_wp2_with fail
            refine (begins_any _).mono ?_
            rintro e w' ⟨rfl, rfl⟩
            go_wp2_with fail
            refine (key_any a ha _).mono ?_
            rintro e w' ⟨rfl, rfl⟩
            go_wp2_with fail
            refine (at_in _ ka.1 ka.2 _).mono ?_
            rintro e w' ⟨rfl, rfl⟩
            rw [hv.out]
            go_wp2_with fail
            refine (at_in a2 hk0 hk _).mono ?_
            rintro e w' ⟨rfl, rfl⟩
            go_wp2_with fail
            refine (key_any _ hl _).mono ?_
            rintro e w' ⟨rfl, rfl⟩
            rw [hkk.out]
            go_wp2_with fail
            refine (compare_any a b ha hb _).mono ?_
            rintro e w' ⟨rfl, rfl⟩
            rw [Hi.out]
            go_wp2_with fail
            refine (compare_any b a hb ha _).mono ?_
            rintro e w' ⟨rfl, rfl⟩
            rw [Hj.out]
            go_wp2_with fail
            go_ret
            exact ⟨rfl, Grown.refl _⟩
          · have Hi := Lib.hid (show icmp (fkey a) (fkey b) = 0 by unfold icmp; rw [if_neg (by omega), if_neg (by omega)])
            have Hj := Lib.hid (show icmp (fkey b) (fkey a) = 0 by unfold icmp; rw [if_neg (by omega), if_neg (by omega)])
            rw [decide_eq_false (by omega)] at e6
            rw [decide_eq_true (by omega)] at e7
            rw [decide_eq_false (by omega)] at e8
            clear hvk hvn na nb hc
            go_enter Try.func4, Try.ntmps4
            go_wp2_with fail
            refine (begins_any _).mono ?_
            rintro e w' ⟨rfl, rfl⟩
            go_wp2_with fail
            refine (key_any a ha _).mono ?_
            rintro e w' ⟨rfl, rfl⟩
            go_wp2_with fail
            refine (at_in _ ka.1 ka.2 _).mono ?_
            rintro e w' ⟨rfl, rfl⟩
            rw [hv.out]
            go_wp2_with fail
            refine (at_in a2 hk0 hk _).mono ?_
            rintro e w' ⟨rfl, rfl⟩
            go_wp2_with fail
            refine (key_any _ hl _).mono ?_
            rintro e w' ⟨rfl, rfl⟩
            rw [hkk.out]
            go_wp2_with fail
            refine (compare_any a b ha hb _).mono ?_
            rintro e w' ⟨rfl, rfl⟩
            rw [Hi.out]
            go_wp2_with fail
            refine (compare_any b a hb ha _).mono ?_
            rintro e w' ⟨rfl, rfl⟩
            rw [Hj.out]
            go_wp2_with fail
            go_ret
            exact ⟨rfl, Grown.refl _⟩
          · have Hi := Lib.hid (show icmp (fkey a) (fkey b) = 1 by unfold icmp; rw [if_neg (by omega), if_pos hc])
            have Hj := Lib.hid (show icmp (fkey b) (fkey a) = -1 by unfold icmp; rw [if_pos hc])
            rw [decide_eq_false (by omega)] at e6
            rw [decide_eq_false (by omega)] at e7
            rw [decide_eq_true (by omega)] at e8
            clear hvk hvn na nb hc
            go_enter Try.func4, Try.ntmps4
            go_wp2_with fail
            refine (begins_any _).mono ?_
            rintro e w' ⟨rfl, rfl⟩
            go_wp2_with fail
            refine (key_any a ha _).mono ?_
            rintro e w' ⟨rfl, rfl⟩
            go_wp2_with fail
            refine (at_in _ ka.1 ka.2 _).mono ?_
            rintro e w' ⟨rfl, rfl⟩
            rw [hv.out]
            go_wp2_with fail
            refine (at_in a2 hk0 hk _).mono ?_
            rintro e w' ⟨rfl, rfl⟩
            go_wp2_with fail
            refine (key_any _ hl _).mono ?_
            rintro e w' ⟨rfl, rfl⟩
            rw [hkk.out]
            go_wp2_with fail
            refine (compare_any a b ha hb _).mono ?_
            rintro e w' ⟨rfl, rfl⟩
            rw [Hi.out]
            go_wp2_with fail
            refine (compare_any b a hb ha _).mono ?_
            rintro e w' ⟨rfl, rfl⟩
            rw [Hj.out]
            go_wp2_with fail
            go_ret
            exact ⟨rfl, Grown.refl _⟩
  · have hk : 18437736874454810625 < a2 := by omega
    by_cases na : isNaN a = true
    · obtain ⟨v, hv64, hvk, hvn, hvz, hv⟩ := at_of a ha
      rw [na] at hvn
      have e1 := E1 ha ha (fEq_nan_l (b := a) na)
      have e2 := N1 ha ha (fEq_nan_l (b := a) na)
      have e3 := E1 hv64 hv64 (fEq_nan_l (b := v) hvn)
      have e4 := E1 hv64 z64 (fEq_nan_l (b := 0) hvn)
      have hv := Lib.hid hv
      have kna := fkey_nan na
      by_cases nb : isNaN b = true
      · have Hi := Lib.hid (show icmp (fkey a) (fkey b) = 0 by rw [kna, fkey_nan nb]; rfl)
        have e5 := N1 hb hb (fEq_nan_l (b := b) nb)
        have e6 := E1 hb hb (fEq_nan_l (b := b) nb)
        clear kna hvk hvn hvz na nb
        go_enter Try.func4, Try.ntmps4
        go_wp2_with fail
        refine (begins_any _).mono ?_
        rintro e w' ⟨rfl, rfl⟩
        go_wp2_with fail
        refine (key_any a ha _).mono ?_
        rintro e w' ⟨rfl, rfl⟩
        go_wp2_with fail
        refine (at_in _ ka.1 ka.2 _).mono ?_
        rintro e w' ⟨rfl, rfl⟩
        rw [hv.out]
        go_wp2_with fail
        refine (at_far a2 (by omega) (by omega) _).mono ?_
        rintro e w' ⟨rfl, rfl⟩
        go_wp2_with fail
        refine (compare_any a b ha hb _).mono ?_
        rintro e w' ⟨rfl, rfl⟩
        rw [Hi.out]
        go_wp2_with fail
        go_ret
        exact ⟨rfl, Grown.refl _⟩
      · have nb : isNaN b = false := by simpa using nb
        have klt := fkey_le hb nb
        have Hi := Lib.hid (show icmp (fkey a) (fkey b) = 1 by rw [kna]; unfold icmp; rw [if_neg (by omega), if_pos (by omega)])
        have e5 := N1 hb hb (fEq_self b)
        have e6 := E1 hb hb (fEq_self b)
        rw [nb] at e5 e6
        clear kna hvk hvn hvz na nb
        go_enter Try.func4, Try.ntmps4
        go_wp2_with fail
        refine (begins_any _).mono ?_
        rintro e w' ⟨rfl, rfl⟩
        go_wp2_with fail
        refine (key_any a ha _).mono ?_
        rintro e w' ⟨rfl, rfl⟩
        go_wp2_with fail
        refine (at_in _ ka.1 ka.2 _).mono ?_
        rintro e w' ⟨rfl, rfl⟩
        rw [hv.out]
        go_wp2_with fail
        refine (at_far a2 (by omega) (by omega) _).mono ?_
        rintro e w' ⟨rfl, rfl⟩
        go_wp2_with fail
        refine (compare_any a b ha hb _).mono ?_
        rintro e w' ⟨rfl, rfl⟩
        rw [Hi.out]
        go_wp2_with fail
        go_ret
        exact ⟨rfl, Grown.refl _⟩
    · have na : isNaN a = false := by simpa using na
      obtain ⟨v, hv64, hvk, hvn, hvz, hv⟩ := at_of a ha
      rw [na] at hvn
      have e1 := E1 ha ha (fEq_self a)
      have e2 := N1 ha ha (fEq_self a)
      rw [na] at e1 e2
      have e3 := N1 hv64 ha (fEq_key hvn na)
      rw [hvk] at e3
      simp only [decide_true, Bool.not_true] at e3
      have e4 := E1 hv64 z64 (fEq_key hvn nan_zero)
      rw [key_zero] at e4
      have hv := Lib.hid hv
      have klt := fkey_le ha na
      by_cases hz : fkey v = 9218868437227405312
      · obtain rfl := hvz hz
        rw [decide_eq_true hz] at e4
        clear hvz hz
        by_cases nb : isNaN b = true
        · have Hi := Lib.hid (show icmp (fkey a) (fkey b) = -1 by rw [fkey_nan nb]; unfold icmp; rw [if_pos (by omega)])
          have e5 := N1 hb hb (fEq_nan_l (b := b) nb)
          have e6 := E1 hb hb (fEq_nan_l (b := b) nb)
          clear hvk hvn na nb
          go_enter Try.func4, Try.ntmps4
          go_wp2_with fail
          refine (begins_any _).mono ?_
          rintro e w' ⟨rfl, rfl⟩
          go_wp2_with fail
          refine (key_any a ha _).mono ?_
          rintro e w' ⟨rfl, rfl⟩
          go_wp2_with fail
          refine (at_in _ ka.1 ka.2 _).mono ?_
          rintro e w' ⟨rfl, rfl⟩
          rw [hv.out]
          go_wp2_with fail
          refine (signbit_pos 0 (by omega) _).mono ?_
          rintro e w' ⟨rfl, rfl⟩
          go_wp2_with fail
          refine (at_far a2 (by omega) (by omega) _).mono ?_
          rintro e w' ⟨rfl, rfl⟩
          go_wp2_with fail
          refine (compare_any a b ha hb _).mono ?_
          rintro e w' ⟨rfl, rfl⟩
          rw [Hi.out]
          go_wp2_with fail
          go_ret
          exact ⟨rfl, Grown.refl _⟩
        · have nb : isNaN b = false := by simpa using nb
          have e5 := N1 hb hb (fEq_self b)
          rw [nb] at e5
          have e6 := L1 ha hb (fLt_key na nb)
          have e7 := E1 ha hb (fEq_key na nb)
          have e8 := G1 ha hb (fLt_key nb na)
          rcases Int.lt_trichotomy (fkey a) (fkey b) with hc | hc | hc
          · have Hi := Lib.hid (show icmp (fkey a) (fkey b) = -1 by unfold icmp; rw [if_pos hc])
            have Hj := Lib.hid (show icmp (fkey b) (fkey a) = 1 by unfold icmp; rw [if_neg (by omega), if_pos hc])
            rw [decide_eq_true (by omega)] at e6
            rw [decide_eq_false (by omega)] at e7
            rw [decide_eq_false (by omega)] at e8
            clear hvk hvn na nb hc
            go_enter Try.func4, Try.ntmps4
            go_wp2_with fail
            refine (begins_any _).mono ?_
            rintro e w' ⟨rfl, rfl⟩
            go_wp2_with fail
            refine (key_any a ha _).mono ?_
            rintro e w' ⟨rfl, rfl⟩
            go_wp2_with fail
            refine (at_in _ ka.1 ka.2 _).mono ?_
            rintro e w' ⟨rfl, rfl⟩
            rw [hv.out]
            go_wp2_with fail
            refine (signbit_pos 0 (by omega) _).mono ?_
            rintro e w' ⟨rfl, rfl⟩
            go_wp2_with fail
            refine (at_far a2 (by omega) (by omega) _).mono ?_
            rintro e w' ⟨rfl, rfl⟩
            go_wp2_with fail
            refine (compare_any a b ha hb _).mono ?_
            rintro e w' ⟨rfl, rfl⟩
            rw [Hi.out]
            go_wp2_with fail
            refine (compare_any b a hb ha _).mono ?_
            rintro e w' ⟨rfl, rfl⟩
            rw [Hj.out]
            go_wp2_with fail
            go_ret
            exact ⟨rfl, Grown.refl _⟩
          · have Hi := Lib.hid (show icmp (fkey a) (fkey b) = 0 by unfold icmp; rw [if_neg (by omega), if_neg (by omega)])
            have Hj := Lib.hid (show icmp (fkey b) (fkey a) = 0 by unfold icmp; rw [if_neg (by omega), if_neg (by omega)])
            rw [decide_eq_false (by omega)] at e6
            rw [decide_eq_true (by omega)] at e7
            rw [decide_eq_false (by omega)] at e8
            clear hvk hvn na nb hc
            go_enter Try.func4, Try.ntmps4
            go_wp2_with fail
            refine (begins_any _).mono ?_
            rintro e w' ⟨rfl, rfl⟩
            go_wp2_with fail
            refine (key_any a ha _).mono ?_
            rintro e w' ⟨rfl, rfl⟩
            go_wp2_with fail
            refine (at_in _ ka.1 ka.2 _).mono ?_
            rintro e w' ⟨rfl, rfl⟩
            rw [hv.out]
            go_wp2_with fail
            refine (signbit_pos 0 (by omega) _).mono ?_
            rintro e w' ⟨rfl, rfl⟩
            go_wp2_with fail
            refine (at_far a2 (by omega) (by omega) _).mono ?_
            rintro e w' ⟨rfl, rfl⟩
            go_wp2_with fail
            refine (compare_any a b ha hb _).mono ?_
            rintro e w' ⟨rfl, rfl⟩
            rw [Hi.out]
            go_wp2_with fail
            refine (compare_any b a hb ha _).mono ?_
            rintro e w' ⟨rfl, rfl⟩
            rw [Hj.out]
            go_wp2_with fail
            go_ret
            exact ⟨rfl, Grown.refl _⟩
          · have Hi := Lib.hid (show icmp (fkey a) (fkey b) = 1 by unfold icmp; rw [if_neg (by omega), if_pos hc])
            have Hj := Lib.hid (show icmp (fkey b) (fkey a) = -1 by unfold icmp; rw [if_pos hc])
            rw [decide_eq_false (by omega)] at e6
            rw [decide_eq_false (by omega)] at e7
            rw [decide_eq_true (by omega)] at e8
            clear hvk hvn na nb hc
            go_enter Try.func4, Try.ntmps4
            go_wp2_with fail
            refine (begins_any _).mono ?_
            rintro e w' ⟨rfl, rfl⟩
            go_wp2_with fail
            refine (key_any a ha _).mono ?_
            rintro e w' ⟨rfl, rfl⟩
            go_wp2_with fail
            refine (at_in _ ka.1 ka.2 _).mono ?_
            rintro e w' ⟨rfl, rfl⟩
            rw [hv.out]
            go_wp2_with fail
            refine (signbit_pos 0 (by omega) _).mono ?_
            rintro e w' ⟨rfl, rfl⟩
            go_wp2_with fail
            refine (at_far a2 (by omega) (by omega) _).mono ?_
            rintro e w' ⟨rfl, rfl⟩
            go_wp2_with fail
            refine (compare_any a b ha hb _).mono ?_
            rintro e w' ⟨rfl, rfl⟩
            rw [Hi.out]
            go_wp2_with fail
            refine (compare_any b a hb ha _).mono ?_
            rintro e w' ⟨rfl, rfl⟩
            rw [Hj.out]
            go_wp2_with fail
            go_ret
            exact ⟨rfl, Grown.refl _⟩
      · rw [decide_eq_false hz] at e4
        clear hvz hz
        by_cases nb : isNaN b = true
        · have Hi := Lib.hid (show icmp (fkey a) (fkey b) = -1 by rw [fkey_nan nb]; unfold icmp; rw [if_pos (by omega)])
          have e5 := N1 hb hb (fEq_nan_l (b := b) nb)
          have e6 := E1 hb hb (fEq_nan_l (b := b) nb)
          clear hvk hvn na nb
          go_enter Try.func4, Try.ntmps4
          go_wp2_with fail
          refine (begins_any _).mono ?_
          rintro e w' ⟨rfl, rfl⟩
          go_wp2_with fail
          refine (key_any a ha _).mono ?_
          rintro e w' ⟨rfl, rfl⟩
          go_wp2_with fail
          refine (at_in _ ka.1 ka.2 _).mono ?_
          rintro e w' ⟨rfl, rfl⟩
          rw [hv.out]
          go_wp2_with fail
          refine (at_far a2 (by omega) (by omega) _).mono ?_
          rintro e w' ⟨rfl, rfl⟩
          go_wp2_with fail
          refine (compare_any a b ha hb _).mono ?_
          rintro e w' ⟨rfl, rfl⟩
          rw [Hi.out]
          go_wp2_with fail
          go_ret
          exact ⟨rfl, Grown.refl _⟩
        · have nb : isNaN b = false := by simpa using nb
          have e5 := N1 hb hb (fEq_self b)
          rw [nb] at e5
          have e6 := L1 ha hb (fLt_key na nb)
          have e7 := E1 ha hb (fEq_key na nb)
          have e8 := G1 ha hb (fLt_key nb na)
          rcases Int.lt_trichotomy (fkey a) (fkey b) with hc | hc | hc
          · have Hi := Lib.hid (show icmp (fkey a) (fkey b) = -1 by unfold icmp; rw [if_pos hc])
            have Hj := Lib.hid (show icmp (fkey b) (fkey a) = 1 by unfold icmp; rw [if_neg (by omega), if_pos hc])
            rw [decide_eq_true (by omega)] at e6
            rw [decide_eq_false (by omega)] at e7
            rw [decide_eq_false (by omega)] at e8
            clear hvk hvn na nb hc
            go_enter Try.func4, Try.ntmps4
            go_wp2_with fail
            refine (begins_any _).mono ?_
            rintro e w' ⟨rfl, rfl⟩
            go_wp2_with fail
            refine (key_any a ha _).mono ?_
            rintro e w' ⟨rfl, rfl⟩
            go_wp2_with fail
            refine (at_in _ ka.1 ka.2 _).mono ?_
            rintro e w' ⟨rfl, rfl⟩
            rw [hv.out]
            go_wp2_with fail
            refine (at_far a2 (by omega) (by omega) _).mono ?_
            rintro e w' ⟨rfl, rfl⟩
            go_wp2_with fail
            refine (compare_any a b ha hb _).mono ?_
            rintro e w' ⟨rfl, rfl⟩
            rw [Hi.out]
            go_wp2_with fail
            refine (compare_any b a hb ha _).mono ?_
            rintro e w' ⟨rfl, rfl⟩
            rw [Hj.out]
            go_wp2_with fail
            go_ret
            exact ⟨rfl, Grown.refl _⟩
          · have Hi := Lib.hid (show icmp (fkey a) (fkey b) = 0 by unfold icmp; rw [if_neg (by omega), if_neg (by omega)])
            have Hj := Lib.hid (show icmp (fkey b) (fkey a) = 0 by unfold icmp; rw [if_neg (by omega), if_neg (by omega)])
            rw [decide_eq_false (by omega)] at e6
            rw [decide_eq_true (by omega)] at e7
            rw [decide_eq_false (by omega)] at e8
            clear hvk hvn na nb hc
            go_enter Try.func4, Try.ntmps4
            go_wp2_with fail
            refine (begins_any _).mono ?_
            rintro e w' ⟨rfl, rfl⟩
            go_wp2_with fail
            refine (key_any a ha _).mono ?_
            rintro e w' ⟨rfl, rfl⟩
            go_wp2_with fail
            refine (at_in _ ka.1 ka.2 _).mono ?_
            rintro e w' ⟨rfl, rfl⟩
            rw [hv.out]
            go_wp2_with fail
            refine (at_far a2 (by omega) (by omega) _).mono ?_
            rintro e w' ⟨rfl, rfl⟩
            go_wp2_with fail
            refine (compare_any a b ha hb _).mono ?_
            rintro e w' ⟨rfl, rfl⟩
            rw [Hi.out]
            go_wp2_with fail
            refine (compare_any b a hb ha _).mono ?_
            rintro e w' ⟨rfl, rfl⟩
            rw [Hj.out]
            go_wp2_with fail
            go_ret
            exact ⟨rfl, Grown.refl _⟩
          · have Hi := Lib.hid (show icmp (fkey a) (fkey b) = 1 by unfold icmp; rw [if_neg (by omega), if_pos hc])
            have Hj := Lib.hid (show icmp (fkey b) (fkey a) = -1 by unfold icmp; rw [if_pos hc])
            rw [decide_eq_false (by omega)] at e6
            rw [decide_eq_false (by omega)] at e7
            rw [decide_eq_true (by omega)] at e8
            clear hvk hvn na nb hc
            go_enter Try.func4, Try.ntmps4
            go_wp2_with fail
            refine (begins_any _).mono ?_
            rintro e w' ⟨rfl, rfl⟩
            go_wp2_with fail
            refine (key_any a ha _).mono ?_
            rintro e w' ⟨rfl, rfl⟩
            go_wp2_with fail
            refine (at_in _ ka.1 ka.2 _).mono ?_
            rintro e w' ⟨rfl, rfl⟩
            rw [hv.out]
            go_wp2_with fail
            refine (at_far a2 (by omega) (by omega) _).mono ?_
            rintro e w' ⟨rfl, rfl⟩
            go_wp2_with fail
            refine (compare_any a b ha hb _).mono ?_
            rintro e w' ⟨rfl, rfl⟩
            rw [Hi.out]
            go_wp2_with fail
            refine (compare_any b a hb ha _).mono ?_
            rintro e w' ⟨rfl, rfl⟩
            rw [Hj.out]
            go_wp2_with fail
            go_ret
            exact ⟨rfl, Grown.refl _⟩

/-! ### THE ROW's STEP: WRITTEN OUT: LEAVE IT -/
set_option maxRecDepth 100000 in
theorem lifted (os : Os) (started : os.Started) (H : Type) (enc : TypeId × Value → H) :
    ReturnsInHanded {} Try.checked os 4 .any (Rows.orderLineSpec.pre6 enc Try.prog Try.f4 Rows.orderLineRow.domain false) (Rows.orderLineSpec.post enc Try.prog Try.f4 false true false false) := by
  refine returnsInHanded_of_change (C := Try.checked) own started (by kernel_rfl) Try.func4
    (ChangeSpec.witness6 (enc := enc) (C := Try.checked) false ⟨#[], #[.int .u64 0, .int .u64 0, .int .u64 0], []⟩ 8 (by kernel_rfl) (by kernel_rfl) (by kernel_rfl) (by kernel_rfl)) ?_
  intro W base args ds gs before hval0 hW hcnd _
  have hval : ∀ (j : Nat) t v, Try.f4.params[j]? = some t → args[j]? = some v → Value.okWide Try.prog W .any base t v := hval0
  have hW' := hW
  obtain ⟨p, q, hA0, hV, rfl, hfz, hnd⟩ := hW
  have hA : DataW.TrodAll enc Try.prog W 0 (fun _ => true) true Try.f4.params.toList args.toList ds p := hA0
  rw [Try.params4] at hA hval
  obtain ⟨v0, vs0, d0, ds0, p0, q0, hargs, rfl, rfl, h0, r0⟩ := trodAll_cons hA
  obtain ⟨v1, vs1, d1, ds1, p1, q1, rfl, rfl, rfl, h1, r1⟩ := trodAll_cons r0
  obtain ⟨v2, vs2, d2, ds2, p2, q2, rfl, rfl, rfl, h2, r2⟩ := trodAll_cons r1
  obtain ⟨rfl, rfl, rfl⟩ := trodAll_nil r2
  obtain rfl : args = #[v0, v1, v2] := by cases args; simp_all
  obtain ⟨rfl, rfl⟩ := trodVars_none hV
  obtain ⟨a0, rfl, rfl, rfl, w0⟩ := open_int Try.underlying22 (hval 0 22 v0 rfl rfl) h0
  obtain ⟨a1, rfl, rfl, rfl, w1⟩ := open_int Try.underlying22 (hval 1 22 v1 rfl rfl) h1
  obtain ⟨a2, rfl, rfl, rfl, w2⟩ := open_int Try.underlying22 (hval 2 22 v2 rfl rfl) h2
  clear hA0 hval0
  simp only [List.append_nil] at hW'
  refine (walk a0 a1 a2 w0 w1 w2 W).mono fun e W' ⟨he, hg⟩ => ?_
  subst he
  exact ⟨_, rfl, post_of_same (pa := []) (pv := []) hW' (fun _ _ _ => (trodAll_cons_mk (shut_bool Try.underlying4 _) trodAll_mk0)) (fun sp _ => (trodAll_cons_mk (shut_int Try.underlying22 w0) (trodAll_cons_mk (shut_int Try.underlying22 w1) (trodAll_cons_mk (shut_int Try.underlying22 w2) trodAll_mk0)))) (fun _ _ => rfl) rfl
    (hg.frame _) hg.2.1 (ok_one (by kernel_rfl) rfl (okWide_bool_mk Try.underlying4 _))⟩

theorem over : Rows.orderLineRow.holds Try.pinned (OpenSpec.ofChange Rows.orderLineSpec) :=
  OpenClaim.holds_of_wide 4 Try.f4 rfl rfl rfl rfl rfl rfl rfl ⟨rfl, rfl, rfl, rfl, rfl⟩ rfl rfl rfl rfl rfl (by kernel_rfl) Try.func4 (by kernel_rfl)
    (of_decide_eq_true (by kernel_rfl)) (by unfold Func.isWrapper; first | (rw [if_pos (by decide +kernel)]; kernel_rfl) | (rw [if_neg (by decide +kernel)]; exact ⟨rfl, rfl⟩))
    (fun os started H enc _ => lifted os started H enc)

/-- ████ THE STATEMENT ████ -/
theorem proved : Rows.OrderLineSaid :=
  over
end Go.Proofs.Ytdjmdnppkchgmaa.orderLine
