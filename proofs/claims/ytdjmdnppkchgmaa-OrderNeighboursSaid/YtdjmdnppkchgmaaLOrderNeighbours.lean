/-
  Next and Prev go forth and back, nothing lies between a number and its next, and the middle lies within, the greater one only where both are one. Conditions: none: every input that the statement speaks of.
  The frame of this proof was written by the kit's program proof-skeleton.mjs; the walk is ours.
-/
import Derived.Test.YtdjmdnppkchgmaaRows
import Derived.WalkKit
import Derived.Test.YtdjmdnppkchgmaaOy
import Derived.ProofKit
import Derived.OpenShut
namespace Go.Proofs.Ytdjmdnppkchgmaa.orderNeighbours
open Go.ChangeShapes Go.WideShapes Go.ChangeAt Go.RowKit
set_option linter.unusedVariables false      -- a walk need not use every 'w<i>' (that an integer argument fits its kind)

theorem own : ownKnob Try.prog.godebug = none := by kernel_rfl


/-! ### STEP 1: THE WALK: the Go text returns true. 'Grown w w'': the world has at most new blocks (Derived/RowKit3.lean). Part the cases AHEAD of 'go_enter' where a test parts the walk; take each callee by a contract of your own. -/
set_option maxHeartbeats 1000000 in
theorem walk (a0 : Int) (a1 : Int) (w0 : (Lit.int .u64 a0).wf = true) (w1 : (Lit.int .u64 a1).wf = true) (w : World) :
    Calls Try.prog 7 #[.int .u64 a0, .int .u64 a1] w fun e w' => e = .returned (.bool true) ∧ Grown w w' := by
  obtain ⟨ha0, ha1⟩ := bounds_u64 w0
  obtain ⟨hb0, hb1⟩ := bounds_u64 w1
  obtain ⟨a, rfl⟩ := Int.eq_ofNat_of_zero_le ha0
  obtain ⟨b, rfl⟩ := Int.eq_ofNat_of_zero_le hb0
  have ha : a < 2 ^ 64 := by omega
  have hb : b < 2 ^ 64 := by omega
  clear w0 w1
  have r1 := run_frombits
  have ka := fkey_bounds ha
  have kb := fkey_bounds hb
  by_cases na : isNaN a = true
  · have e2 := N1 ha ha (fEq_nan_l (b := a) na)
    have hx := Lib.hid (next_nan na)
    clear na
    go_enter Try.func7, Try.ntmps7
    go_wp2_with fail
    refine (begins_any _).mono ?_
    rintro e w' ⟨rfl, rfl⟩
    go_wp2_with fail
    refine (next_any a ha _).mono ?_
    rintro e w' ⟨rfl, rfl⟩
    rw [hx.out]
    go_wp2_with fail
    go_ret
    exact ⟨rfl, Grown.refl _⟩
  · have na : isNaN a = false := by simpa using na
    have e2 := N1 ha ha (fEq_self a)
    rw [na] at e2
    have kl := fkey_le ha na
    by_cases he : fkey a = 18437736874454810624
    · have hx := Lib.hid (next_end na he)
      have hi := Lib.hid (isinf_pos a ha na he)
      clear na he
      go_enter Try.func7, Try.ntmps7
      go_wp2_with fail
      refine (begins_any _).mono ?_
      rintro e w' ⟨rfl, rfl⟩
      go_wp2_with fail
      refine (next_any a ha _).mono ?_
      rintro e w' ⟨rfl, rfl⟩
      rw [hx.out]
      go_wp2_with fail
      refine (hi.out _).mono ?_
      rintro e w' ⟨rfl, rfl⟩
      go_wp2_with fail
      go_ret
      exact ⟨rfl, Grown.refl _⟩
    · have hx := Lib.hid (next_ok na he)
      obtain ⟨v, v64, vk, vn, hv⟩ := num_of (fkey a + 1) (by omega) (by omega)
      obtain ⟨u, u64, uk, un, hu⟩ := num_of (fkey a) (by omega) (by omega)
      have hp := Lib.hid (prev_ok vn (by rw [vk]; omega))
      have hv' := Lib.hid hv
      clear hv
      have hu' := Lib.hid hu
      clear hu
      have hvk := Lib.hid (show fkey v - 1 = fkey a by rw [vk]; omega)
      have e3 := N1 u64 ha ((fEq_key un na).trans (decide_eq_true uk))
      have e4 := G1 v64 ha ((fLt_key na vn).trans (decide_eq_true (by rw [vk]; omega)))
      have hbn : isNaN a = false ∧ isNaN v = false := ⟨na, vn⟩
      have hb1' := Lib.hid (mid_le (a := a) (b := v) (by rw [na, vn]; rfl) (by rw [vk]; omega))
      have hbt := Lib.hid (show fkey v - fkey a + 1 = 2 by rw [vk]; omega)
      by_cases nb : isNaN b = true
      · have e5 := E1 hb hb (fEq_nan_l (b := b) nb)
        have e6 := N1 hb hb (fEq_nan_l (b := b) nb)
        clear na he vk uk vn un hbn nb
        go_enter Try.func7, Try.ntmps7
        go_wp2_with fail
        refine (begins_any _).mono ?_
        rintro e w' ⟨rfl, rfl⟩
        go_wp2_with fail
        refine (next_any a ha _).mono ?_
        rintro e w' ⟨rfl, rfl⟩
        rw [hx.out.1, hx.out.2, hv'.out]
        go_wp2_with fail
        refine (prev_any v v64 _).mono ?_
        rintro e w' ⟨rfl, rfl⟩
        rw [hp.out.1, hp.out.2, hvk.out, hu'.out]
        go_wp2_with fail
        refine (bet_any a v ha v64 _).mono ?_
        rintro e w' ⟨rfl, rfl⟩
        rw [hb1'.out.2.2.2.1, hb1'.out.2.2.2.2, hbt.out]
        go_wp2_with fail
        go_ret
        exact ⟨rfl, Grown.refl _⟩
      · have nb : isNaN b = false := by simpa using nb
        have e5 := E1 hb hb (fEq_self b)
        have e6 := N1 hb hb (fEq_self b)
        rw [nb] at e5 e6
        have lb := fkey_le hb nb
        have e7 := L1 hb ha (fLt_key nb na)
        have e8 := G1 hb ha (fLt_key na nb)
        by_cases hc : fkey b < fkey a
        · rw [decide_eq_true hc] at e7
          rw [decide_eq_false (by omega)] at e8
          obtain ⟨m, m64, mk, mn, hm⟩ := num_of (midK b a) (by unfold midK; omega) (by unfold midK; omega)
          have hmm := Lib.hid (mid_le (a := b) (b := a) (by rw [na, nb]; rfl) (by omega))
          have f1 := Le1 hb m64 ((fLe_key nb mn).trans (decide_eq_true (by rw [mk]; unfold midK; omega)))
          have f2 := Le1 m64 ha ((fLe_key mn na).trans (decide_eq_true (by rw [mk]; unfold midK; omega)))
          have f3 := L1 m64 ha ((fLt_key mn na).trans (decide_eq_true (by rw [mk]; unfold midK; omega)))
          have hm' := Lib.hid hm
          clear hm
          clear na he vk uk vn un hbn nb mk mn hc
          go_enter Try.func7, Try.ntmps7
          go_wp2_with fail
          refine (begins_any _).mono ?_
          rintro e w' ⟨rfl, rfl⟩
          go_wp2_with fail
          refine (next_any a ha _).mono ?_
          rintro e w' ⟨rfl, rfl⟩
          rw [hx.out.1, hx.out.2, hv'.out]
          go_wp2_with fail
          refine (prev_any v v64 _).mono ?_
          rintro e w' ⟨rfl, rfl⟩
          rw [hp.out.1, hp.out.2, hvk.out, hu'.out]
          go_wp2_with fail
          refine (bet_any a v ha v64 _).mono ?_
          rintro e w' ⟨rfl, rfl⟩
          rw [hb1'.out.2.2.2.1, hb1'.out.2.2.2.2, hbt.out]
          go_wp2_with fail
          refine (mid_any b a hb ha _).mono ?_
          rintro e w' ⟨rfl, rfl⟩
          rw [hmm.out.1, hmm.out.2.2.1, hm'.out]
          go_wp2_with fail
          go_ret
          exact ⟨rfl, Grown.refl _⟩
        · rw [decide_eq_false hc] at e7
          obtain ⟨m, m64, mk, mn, hm⟩ := num_of (midK a b) (by unfold midK; omega) (by unfold midK; omega)
          have hmm := Lib.hid (mid_le (a := a) (b := b) (by rw [na, nb]; rfl) (by omega))
          have f1 := Le1 ha m64 ((fLe_key na mn).trans (decide_eq_true (by rw [mk]; unfold midK; omega)))
          have f2 := Le1 m64 hb ((fLe_key mn nb).trans (decide_eq_true (by rw [mk]; unfold midK; omega)))
          have f3 := L1 m64 hb (fLt_key mn nb)
          have f4 := L1 ha hb (fLt_key na nb)
          have f5 := L1 (c := decide (fkey b ≤ fkey a)) hb v64 (by rw [fLt_key nb vn, decide_eq_decide, vk]; omega)
          have hm' := Lib.hid hm
          clear hm
          by_cases hd : fkey a = fkey b
          · rw [decide_eq_false (by omega)] at e8
            rw [decide_eq_false (by rw [mk]; unfold midK; omega)] at f3
            rw [decide_eq_false (by omega)] at f4
            have g1 := E1 m64 hb ((fEq_key mn nb).trans (decide_eq_true (by rw [mk]; unfold midK; omega)))
            have g2 := E1 ha m64 ((fEq_key na mn).trans (decide_eq_true (by rw [mk]; unfold midK; omega)))
            clear f5
            clear na he vk uk vn un hbn nb mk mn hc hd
            go_enter Try.func7, Try.ntmps7
            go_wp2_with fail
            refine (begins_any _).mono ?_
            rintro e w' ⟨rfl, rfl⟩
            go_wp2_with fail
            refine (next_any a ha _).mono ?_
            rintro e w' ⟨rfl, rfl⟩
            rw [hx.out.1, hx.out.2, hv'.out]
            go_wp2_with fail
            refine (prev_any v v64 _).mono ?_
            rintro e w' ⟨rfl, rfl⟩
            rw [hp.out.1, hp.out.2, hvk.out, hu'.out]
            go_wp2_with fail
            refine (bet_any a v ha v64 _).mono ?_
            rintro e w' ⟨rfl, rfl⟩
            rw [hb1'.out.2.2.2.1, hb1'.out.2.2.2.2, hbt.out]
            go_wp2_with fail
            refine (mid_any a b ha hb _).mono ?_
            rintro e w' ⟨rfl, rfl⟩
            rw [hmm.out.1, hmm.out.2.2.1, hm'.out]
            go_wp2_with fail
            go_ret
            exact ⟨rfl, Grown.refl _⟩
          · rw [decide_eq_true (by omega)] at e8
            rw [decide_eq_true (by rw [mk]; unfold midK; omega)] at f3
            rw [decide_eq_true (by omega)] at f4
            rw [decide_eq_false (by omega)] at f5
            clear na he vk uk vn un hbn nb mk mn hc hd
            go_enter Try.func7, Try.ntmps7
            go_wp2_with fail
            refine (begins_any _).mono ?_
            rintro e w' ⟨rfl, rfl⟩
            go_wp2_with fail
            refine (next_any a ha _).mono ?_
            rintro e w' ⟨rfl, rfl⟩
            rw [hx.out.1, hx.out.2, hv'.out]
            go_wp2_with fail
            refine (prev_any v v64 _).mono ?_
            rintro e w' ⟨rfl, rfl⟩
            rw [hp.out.1, hp.out.2, hvk.out, hu'.out]
            go_wp2_with fail
            refine (bet_any a v ha v64 _).mono ?_
            rintro e w' ⟨rfl, rfl⟩
            rw [hb1'.out.2.2.2.1, hb1'.out.2.2.2.2, hbt.out]
            go_wp2_with fail
            refine (mid_any a b ha hb _).mono ?_
            rintro e w' ⟨rfl, rfl⟩
            rw [hmm.out.1, hmm.out.2.2.1, hm'.out]
            go_wp2_with fail
            go_ret
            exact ⟨rfl, Grown.refl _⟩

/-! ### THE ROW's STEP: WRITTEN OUT: LEAVE IT -/
set_option maxRecDepth 100000 in
theorem lifted (os : Os) (started : os.Started) (H : Type) (enc : TypeId × Value → H) :
    ReturnsInHanded {} Try.checked os 7 .any (Rows.orderNeighboursSpec.pre6 enc Try.prog Try.f7 Rows.orderNeighboursRow.domain false) (Rows.orderNeighboursSpec.post enc Try.prog Try.f7 false true false false) := by
  refine returnsInHanded_of_change (C := Try.checked) own started (by kernel_rfl) Try.func7
    (ChangeSpec.witness6 (enc := enc) (C := Try.checked) false ⟨#[], #[.int .u64 0, .int .u64 0], []⟩ 8 (by kernel_rfl) (by kernel_rfl) (by kernel_rfl) (by kernel_rfl)) ?_
  intro W base args ds gs before hval0 hW hcnd _
  have hval : ∀ (j : Nat) t v, Try.f7.params[j]? = some t → args[j]? = some v → Value.okWide Try.prog W .any base t v := hval0
  have hW' := hW
  obtain ⟨p, q, hA0, hV, rfl, hfz, hnd⟩ := hW
  have hA : DataW.TrodAll enc Try.prog W 0 (fun _ => true) true Try.f7.params.toList args.toList ds p := hA0
  rw [Try.params7] at hA hval
  obtain ⟨v0, vs0, d0, ds0, p0, q0, hargs, rfl, rfl, h0, r0⟩ := trodAll_cons hA
  obtain ⟨v1, vs1, d1, ds1, p1, q1, rfl, rfl, rfl, h1, r1⟩ := trodAll_cons r0
  obtain ⟨rfl, rfl, rfl⟩ := trodAll_nil r1
  obtain rfl : args = #[v0, v1] := by cases args; simp_all
  obtain ⟨rfl, rfl⟩ := trodVars_none hV
  obtain ⟨a0, rfl, rfl, rfl, w0⟩ := open_int Try.underlying22 (hval 0 22 v0 rfl rfl) h0
  obtain ⟨a1, rfl, rfl, rfl, w1⟩ := open_int Try.underlying22 (hval 1 22 v1 rfl rfl) h1
  clear hA0 hval0
  simp only [List.append_nil] at hW'
  refine (walk a0 a1 w0 w1 W).mono fun e W' ⟨he, hg⟩ => ?_
  subst he
  exact ⟨_, rfl, post_of_same (pa := []) (pv := []) hW' (fun _ _ _ => (trodAll_cons_mk (shut_bool Try.underlying4 _) trodAll_mk0)) (fun sp _ => (trodAll_cons_mk (shut_int Try.underlying22 w0) (trodAll_cons_mk (shut_int Try.underlying22 w1) trodAll_mk0))) (fun _ _ => rfl) rfl
    (hg.frame _) hg.2.1 (ok_one (by kernel_rfl) rfl (okWide_bool_mk Try.underlying4 _))⟩

theorem over : Rows.orderNeighboursRow.holds Try.pinned (OpenSpec.ofChange Rows.orderNeighboursSpec) :=
  OpenClaim.holds_of_wide 7 Try.f7 rfl rfl rfl rfl rfl rfl rfl ⟨rfl, rfl, rfl, rfl, rfl⟩ rfl rfl rfl rfl rfl (by kernel_rfl) Try.func7 (by kernel_rfl)
    (of_decide_eq_true (by kernel_rfl)) (by unfold Func.isWrapper; first | (rw [if_pos (by decide +kernel)]; kernel_rfl) | (rw [if_neg (by decide +kernel)]; exact ⟨rfl, rfl⟩))
    (fun os started H enc _ => lifted os started H enc)

/-- ████ THE STATEMENT ████ -/
theorem proved : Rows.OrderNeighboursSaid :=
  over
end Go.Proofs.Ytdjmdnppkchgmaa.orderNeighbours
