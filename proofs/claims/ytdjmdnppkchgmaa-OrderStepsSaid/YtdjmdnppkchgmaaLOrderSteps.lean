/-
  The program's Compare, Next, Prev, Middle and Between answer what the document's answer, for every two numbers. Conditions: none: every input that the statement speaks of.
  The frame of this proof was written by the kit's program proof-skeleton.mjs; the walk is ours.
-/
import Derived.Test.YtdjmdnppkchgmaaRows
import Derived.WalkKit
import Derived.Test.YtdjmdnppkchgmaaOx
import Derived.ProofKit
import Derived.OpenShut
namespace Go.Proofs.Ytdjmdnppkchgmaa.orderSteps
open Go.ChangeShapes Go.WideShapes Go.ChangeAt Go.RowKit
set_option linter.unusedVariables false      -- a walk need not use every 'w<i>' (that an integer argument fits its kind)

theorem own : ownKnob Try.prog.godebug = none := by kernel_rfl

theorem is_same {b c : Nat} (h : b = c) : fIs b c = true := by rw [h]; exact fIs_self c
theorem is_atk (k : Int) (h : 0 ≤ k ∧ k ≤ 18437736874454810625) : fIs (atBits k) (ratBits k) = true := fIs_at k h.1 h.2
theorem next_is (b : Nat) (hb : b < 2 ^ 64) : fIs (nextB b) (rnextB b) = true ∧ nextB b < 2 ^ 64 ∧ rnextB b < 2 ^ 64 := by
  have h := fkey_bounds hb
  unfold nextB rnextB
  by_cases hn : isNaN b = true
  · rw [if_pos hn, if_pos hn]; exact ⟨fIs_self 0, by omega, by omega⟩
  · rw [if_neg hn, if_neg hn]
    have h2 := fkey_le hb (by simpa using hn)
    by_cases he : fkey b = 18437736874454810624
    · rw [if_pos he, if_pos he]; exact ⟨fIs_self 0, by omega, by omega⟩
    · rw [if_neg he, if_neg he]; exact ⟨fIs_at _ (by omega) (by omega), atBits_lt _ (by omega) (by omega), ratBits_lt _ (by omega) (by omega)⟩
theorem prev_is (b : Nat) (hb : b < 2 ^ 64) : fIs (prevB b) (rprevB b) = true ∧ prevB b < 2 ^ 64 ∧ rprevB b < 2 ^ 64 := by
  have h := fkey_bounds hb
  unfold prevB rprevB
  by_cases hn : isNaN b = true
  · rw [if_pos hn, if_pos hn]; exact ⟨fIs_self 0, by omega, by omega⟩
  · rw [if_neg hn, if_neg hn]
    by_cases he : fkey b = 0
    · rw [if_pos he, if_pos he]; exact ⟨fIs_self 0, by omega, by omega⟩
    · rw [if_neg he, if_neg he]; exact ⟨fIs_at _ (by omega) (by omega), atBits_lt _ (by omega) (by omega), ratBits_lt _ (by omega) (by omega)⟩
theorem mid_is (a b : Nat) (ha : a < 2 ^ 64) (hb : b < 2 ^ 64) : fIs (midB a b) (rmidB a b) = true ∧ midB a b < 2 ^ 64 ∧ rmidB a b < 2 ^ 64 := by
  have h := fkey_bounds ha
  have g := fkey_bounds hb
  unfold midB rmidB midK
  split
  · exact ⟨fIs_self 0, by omega, by omega⟩
  · split
    · exact ⟨fIs_self 0, by omega, by omega⟩
    · exact ⟨fIs_at _ (by omega) (by omega), atBits_lt _ (by omega) (by omega), ratBits_lt _ (by omega) (by omega)⟩
/-- c as the law reckons it -/
theorem cmp_cases (x y : Int) : (x < y ∧ icmp x y = -1) ∨ (y < x ∧ icmp x y = 1) ∨ (x = y ∧ icmp x y = 0) := by
  unfold icmp
  rcases Int.lt_trichotomy x y with h | h | h
  · exact .inl ⟨h, by rw [if_pos h]⟩
  · exact .inr (.inr ⟨h, by rw [if_neg (by omega), if_neg (by omega)]⟩)
  · exact .inr (.inl ⟨h, by rw [if_neg (by omega), if_pos h]⟩)

/-! ### STEP 1: THE WALK: the Go text returns true. 'Grown w w'': the world has at most new blocks (Derived/RowKit3.lean). Part the cases AHEAD of 'go_enter' where a test parts the walk; take each callee by a contract of your own. -/
theorem walk (a0 : Int) (a1 : Int) (w0 : (Lit.int .u64 a0).wf = true) (w1 : (Lit.int .u64 a1).wf = true) (w : World) :
    Calls Try.prog 6 #[.int .u64 a0, .int .u64 a1] w fun e w' => e = .returned (.bool true) ∧ Grown w w' := by
  obtain ⟨hb0, hb1⟩ := bounds_u64 w0
  obtain ⟨hk0, hk1⟩ := bounds_u64 w1
  obtain ⟨a, rfl⟩ := Int.eq_ofNat_of_zero_le hb0
  obtain ⟨b, rfl⟩ := Int.eq_ofNat_of_zero_le hk0
  have ha : a < 2 ^ 64 := by omega
  have hb : b < 2 ^ 64 := by omega
  clear w0 w1
  have r1 := run_frombits
  obtain ⟨n1, n2, n3⟩ := next_is a ha
  obtain ⟨p1, p2, p3⟩ := prev_is a ha
  obtain ⟨m1, m2, m3⟩ := mid_is a b ha hb
  have q1 : (nextE a != nextE a) = false := by simp
  have q2 : (prevE a != prevE a) = false := by simp
  have q3 : (midE a b != midE a b) = false := by simp
  have q4 : (betN a b == betN a b) = true := by simp
  have q5 : (betE a b == betE a b) = true := by simp
  rcases cmp_cases (fkey a) (fkey b) with ⟨hc, hi⟩ | ⟨hc, hi⟩ | ⟨hc, hi⟩
  · have Hi := Lib.hid hi
    clear hi
    go_enter Try.func6, Try.ntmps6
    go_wp2_with fail
    refine (rkey_any a ha _).mono ?_
    rintro e w' ⟨rfl, rfl⟩
    go_wp2_with fail
    refine (rkey_any b hb _).mono ?_
    rintro e w' ⟨rfl, rfl⟩
    go_wp2_with fail
    refine (rkey_any a ha _).mono ?_
    rintro e w' ⟨rfl, rfl⟩
    go_wp2_with fail
    refine (rkey_any b hb _).mono ?_
    rintro e w' ⟨rfl, rfl⟩
    go_wp2_with fail
    refine (compare_any a b ha hb _).mono ?_
    rintro e w' ⟨rfl, rfl⟩
    rw [Hi.out]
    go_wp2_with fail
    refine (next_any a ha _).mono ?_
    rintro e w' ⟨rfl, rfl⟩
    go_wp2_with fail
    refine (rnext_any a ha _).mono ?_
    rintro e w' ⟨rfl, rfl⟩
    go_wp2_with fail
    refine (is_any _ _ n2 n3 _).mono ?_
    rintro e w' ⟨rfl, rfl⟩
    go_wp2_with fail
    refine (prev_any a ha _).mono ?_
    rintro e w' ⟨rfl, rfl⟩
    go_wp2_with fail
    refine (rprev_any a ha _).mono ?_
    rintro e w' ⟨rfl, rfl⟩
    go_wp2_with fail
    refine (is_any _ _ p2 p3 _).mono ?_
    rintro e w' ⟨rfl, rfl⟩
    go_wp2_with fail
    refine (mid_any a b ha hb _).mono ?_
    rintro e w' ⟨rfl, rfl⟩
    go_wp2_with fail
    refine (rmid_any a b ha hb _).mono ?_
    rintro e w' ⟨rfl, rfl⟩
    go_wp2_with fail
    refine (is_any _ _ m2 m3 _).mono ?_
    rintro e w' ⟨rfl, rfl⟩
    go_wp2_with fail
    refine (bet_any a b ha hb _).mono ?_
    rintro e w' ⟨rfl, rfl⟩
    go_wp2_with fail
    refine (rbet_any a b ha hb _).mono ?_
    rintro e w' ⟨rfl, rfl⟩
    go_wp2_with fail
    go_ret
    exact ⟨rfl, Grown.refl _⟩
  · have Hi := Lib.hid hi
    clear hi
    go_enter Try.func6, Try.ntmps6
    go_wp2_with fail
    refine (rkey_any a ha _).mono ?_
    rintro e w' ⟨rfl, rfl⟩
    go_wp2_with fail
    refine (rkey_any b hb _).mono ?_
    rintro e w' ⟨rfl, rfl⟩
    go_wp2_with fail
    refine (rkey_any a ha _).mono ?_
    rintro e w' ⟨rfl, rfl⟩
    go_wp2_with fail
    refine (rkey_any b hb _).mono ?_
    rintro e w' ⟨rfl, rfl⟩
    go_wp2_with fail
    refine (compare_any a b ha hb _).mono ?_
    rintro e w' ⟨rfl, rfl⟩
    rw [Hi.out]
    go_wp2_with fail
    refine (next_any a ha _).mono ?_
    rintro e w' ⟨rfl, rfl⟩
    go_wp2_with fail
    refine (rnext_any a ha _).mono ?_
    rintro e w' ⟨rfl, rfl⟩
    go_wp2_with fail
    refine (is_any _ _ n2 n3 _).mono ?_
    rintro e w' ⟨rfl, rfl⟩
    go_wp2_with fail
    refine (prev_any a ha _).mono ?_
    rintro e w' ⟨rfl, rfl⟩
    go_wp2_with fail
    refine (rprev_any a ha _).mono ?_
    rintro e w' ⟨rfl, rfl⟩
    go_wp2_with fail
    refine (is_any _ _ p2 p3 _).mono ?_
    rintro e w' ⟨rfl, rfl⟩
    go_wp2_with fail
    refine (mid_any a b ha hb _).mono ?_
    rintro e w' ⟨rfl, rfl⟩
    go_wp2_with fail
    refine (rmid_any a b ha hb _).mono ?_
    rintro e w' ⟨rfl, rfl⟩
    go_wp2_with fail
    refine (is_any _ _ m2 m3 _).mono ?_
    rintro e w' ⟨rfl, rfl⟩
    go_wp2_with fail
    refine (bet_any a b ha hb _).mono ?_
    rintro e w' ⟨rfl, rfl⟩
    go_wp2_with fail
    refine (rbet_any a b ha hb _).mono ?_
    rintro e w' ⟨rfl, rfl⟩
    go_wp2_with fail
    go_ret
    exact ⟨rfl, Grown.refl _⟩
  · have Hi := Lib.hid hi
    have hle := Int.le_of_eq hc
    have hge := Int.le_of_eq hc.symm
    clear hc
    clear hi
    go_enter Try.func6, Try.ntmps6
    go_wp2_with fail
    refine (rkey_any a ha _).mono ?_
    rintro e w' ⟨rfl, rfl⟩
    go_wp2_with fail
    refine (rkey_any b hb _).mono ?_
    rintro e w' ⟨rfl, rfl⟩
    go_wp2_with fail
    refine (rkey_any a ha _).mono ?_
    rintro e w' ⟨rfl, rfl⟩
    go_wp2_with fail
    refine (rkey_any b hb _).mono ?_
    rintro e w' ⟨rfl, rfl⟩
    go_wp2_with fail
    refine (compare_any a b ha hb _).mono ?_
    rintro e w' ⟨rfl, rfl⟩
    rw [Hi.out]
    go_wp2_with fail
    refine (next_any a ha _).mono ?_
    rintro e w' ⟨rfl, rfl⟩
    go_wp2_with fail
    refine (rnext_any a ha _).mono ?_
    rintro e w' ⟨rfl, rfl⟩
    go_wp2_with fail
    refine (is_any _ _ n2 n3 _).mono ?_
    rintro e w' ⟨rfl, rfl⟩
    go_wp2_with fail
    refine (prev_any a ha _).mono ?_
    rintro e w' ⟨rfl, rfl⟩
    go_wp2_with fail
    refine (rprev_any a ha _).mono ?_
    rintro e w' ⟨rfl, rfl⟩
    go_wp2_with fail
    refine (is_any _ _ p2 p3 _).mono ?_
    rintro e w' ⟨rfl, rfl⟩
    go_wp2_with fail
    refine (mid_any a b ha hb _).mono ?_
    rintro e w' ⟨rfl, rfl⟩
    go_wp2_with fail
    refine (rmid_any a b ha hb _).mono ?_
    rintro e w' ⟨rfl, rfl⟩
    go_wp2_with fail
    refine (is_any _ _ m2 m3 _).mono ?_
    rintro e w' ⟨rfl, rfl⟩
    go_wp2_with fail
    refine (bet_any a b ha hb _).mono ?_
    rintro e w' ⟨rfl, rfl⟩
    go_wp2_with fail
    refine (rbet_any a b ha hb _).mono ?_
    rintro e w' ⟨rfl, rfl⟩
    go_wp2_with fail
    go_ret
    exact ⟨rfl, Grown.refl _⟩

/-! ### THE ROW's STEP: WRITTEN OUT: LEAVE IT -/
set_option maxRecDepth 100000 in
theorem lifted (os : Os) (started : os.Started) (H : Type) (enc : TypeId × Value → H) :
    ReturnsInHanded {} Try.checked os 6 .any (Rows.orderStepsSpec.pre6 enc Try.prog Try.f6 Rows.orderStepsRow.domain false) (Rows.orderStepsSpec.post enc Try.prog Try.f6 false true false false) := by
  refine returnsInHanded_of_change (C := Try.checked) own started (by kernel_rfl) Try.func6
    (ChangeSpec.witness6 (enc := enc) (C := Try.checked) false ⟨#[], #[.int .u64 0, .int .u64 0], []⟩ 8 (by kernel_rfl) (by kernel_rfl) (by kernel_rfl) (by kernel_rfl)) ?_
  intro W base args ds gs before hval0 hW hcnd _
  have hval : ∀ (j : Nat) t v, Try.f6.params[j]? = some t → args[j]? = some v → Value.okWide Try.prog W .any base t v := hval0
  have hW' := hW
  obtain ⟨p, q, hA0, hV, rfl, hfz, hnd⟩ := hW
  have hA : DataW.TrodAll enc Try.prog W 0 (fun _ => true) true Try.f6.params.toList args.toList ds p := hA0
  rw [Try.params6] at hA hval
  obtain ⟨v0, vs0, d0, ds0, p0, q0, hargs, rfl, rfl, h0, r0⟩ := trodAll_cons hA
  obtain ⟨v1, vs1, d1, ds1, p1, q1, rfl, rfl, rfl, h1, r1⟩ := trodAll_cons r0
  obtain ⟨rfl, rfl, rfl⟩ := trodAll_nil r1
  obtain rfl : args = #[v0, v1] := by cases args; simp_all
  obtain ⟨rfl, rfl⟩ := trodVars_none hV
  obtain ⟨a0, rfl, rfl, rfl, w0⟩ := open_int Try.underlying22 (hval 0 22 v0 rfl rfl) h0
  obtain ⟨a1, rfl, rfl, rfl, w1⟩ := open_int Try.underlying22 (hval 1 22 v1 rfl rfl) h1
  clear hA0 hval0
  simp only [List.append_nil] at hW'
  refine (walk a0 a1 w0 w1 W).mono fun e W' ⟨he, hg⟩ => ?_
  subst he
  exact ⟨_, rfl, post_of_same (pa := []) (pv := []) hW' (fun _ _ _ => (trodAll_cons_mk (shut_bool Try.underlying4 _) trodAll_mk0)) (fun sp _ => (trodAll_cons_mk (shut_int Try.underlying22 w0) (trodAll_cons_mk (shut_int Try.underlying22 w1) trodAll_mk0))) (fun _ _ => rfl) rfl
    (hg.frame _) hg.2.1 (ok_one (by kernel_rfl) rfl (okWide_bool_mk Try.underlying4 _))⟩

theorem over : Rows.orderStepsRow.holds Try.pinned (OpenSpec.ofChange Rows.orderStepsSpec) :=
  OpenClaim.holds_of_wide 6 Try.f6 rfl rfl rfl rfl rfl rfl rfl ⟨rfl, rfl, rfl, rfl, rfl⟩ rfl rfl rfl rfl rfl (by kernel_rfl) Try.func6 (by kernel_rfl)
    (of_decide_eq_true (by kernel_rfl)) (by unfold Func.isWrapper; first | (rw [if_pos (by decide +kernel)]; kernel_rfl) | (rw [if_neg (by decide +kernel)]; exact ⟨rfl, rfl⟩))
    (fun os started H enc _ => lifted os started H enc)

/-- ████ THE STATEMENT ████ -/
theorem proved : Rows.OrderStepsSaid :=
  over
end Go.Proofs.Ytdjmdnppkchgmaa.orderSteps
