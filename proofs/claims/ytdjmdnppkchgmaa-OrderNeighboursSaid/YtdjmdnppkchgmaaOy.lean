/-
  Walks for order's laws without the document: begins, math.Signbit, math.IsInf; facts on keys.
-/
import Derived.Test.YtdjmdnppkchgmaaOx
namespace Go.Proofs.Ytdjmdnppkchgmaa
open Go.RowKit
set_option linter.unusedVariables false

theorem place_of_key {a : Nat} (h : isNaN a = false) : place a = fkey a - 9218868437227405312 := by unfold fkey; rw [if_neg (by simp [h])]; omega
theorem fEq_key {a b : Nat} (ha : isNaN a = false) (hb : isNaN b = false) : fEq a b = decide (fkey a = fkey b) := by
  unfold fEq; rw [ha, hb, place_of_key ha, place_of_key hb]; simp
theorem fLt_key {a b : Nat} (ha : isNaN a = false) (hb : isNaN b = false) : fLt a b = decide (fkey a < fkey b) := by
  unfold fLt; rw [ha, hb, place_of_key ha, place_of_key hb]; simp
theorem fLe_key {a b : Nat} (ha : isNaN a = false) (hb : isNaN b = false) : fLe a b = decide (fkey a ≤ fkey b) := by
  unfold fLe; rw [ha, hb, place_of_key ha, place_of_key hb]; simp
theorem fEq_nan_l {a b : Nat} (ha : isNaN a = true) : fEq a b = false := by unfold fEq; rw [ha]; rfl
theorem fEq_nan_r {a b : Nat} (hb : isNaN b = true) : fEq a b = false := by unfold fEq; rw [hb]; simp
theorem nan_zero : isNaN 0 = false := by decide +kernel
theorem key_zero : fkey 0 = 9218868437227405312 := by decide +kernel

theorem signbit_pos (b : Nat) (hb : b < 9223372036854775808) (w : World) :
    Calls Try.prog 19 #[.float .f64 b] w fun e w' => e = .returned (.bool false) ∧ w = w' := by
  have r1 := run_bits b
  have hz : 0 ≤ (b : Int) ∧ (b : Int) < 9223372036854775808 := by omega
  go_enter Try.func19, Try.ntmps19
  go_wp2
  go_ret
  exact ⟨rfl, rfl⟩

set_option maxRecDepth 100000 in
theorem begins_any (w : World) : Calls Try.prog 18 #[] w fun e w' => e = .returned (.bool true) ∧ w = w' := by
  have r1 := run_bits
  have h1 := Lib.hid (show nextB 4607182418800017408 = 4607182418800017409 ∧ nextE 4607182418800017408 = 0 by decide +kernel)
  have h2 := Lib.hid (show icmp (fkey 4607182418800017408) (fkey 4611686018427387904) = -1 by decide +kernel)
  have h3 := Lib.hid key_zero
  go_enter Try.func18, Try.ntmps18
  go_wp2_with fail
  refine (next_any 4607182418800017408 (by omega) _).mono ?_
  rw [h1.out.1, h1.out.2]
  rintro e w' ⟨rfl, rfl⟩
  go_wp2_with fail
  refine (compare_any 4607182418800017408 4611686018427387904 (by omega) (by omega) _).mono ?_
  rw [h2.out]
  rintro e w' ⟨rfl, rfl⟩
  go_wp2_with fail
  refine (key_any 0 (by omega) _).mono ?_
  rw [h3.out]
  rintro e w' ⟨rfl, rfl⟩
  go_wp2_with fail
  go_ret
  exact ⟨rfl, rfl⟩

/-! comparisons, as a walk writes them, each with its outcome -/
theorem E1 {x y : Nat} {c : Bool} (hx : x < 2 ^ 64) (hy : y < 2 ^ 64) (h : fEq x y = c) : (FloatKind.f64.format.order x y == some .eq) = c := (f_eql x y hx hy).trans h
theorem N1 {x y : Nat} {c : Bool} (hx : x < 2 ^ 64) (hy : y < 2 ^ 64) (h : fEq x y = c) : (FloatKind.f64.format.order x y != some .eq) = !c := by rw [f_neq x y hx hy, h]
theorem L1 {x y : Nat} {c : Bool} (hx : x < 2 ^ 64) (hy : y < 2 ^ 64) (h : fLt x y = c) : (FloatKind.f64.format.order x y == some .lt) = c := (f_lss x y hx hy).trans h
theorem G1 {x y : Nat} {c : Bool} (hx : x < 2 ^ 64) (hy : y < 2 ^ 64) (h : fLt y x = c) : (FloatKind.f64.format.order x y == some .gt) = c := (f_gtr x y hx hy).trans h
theorem Le1 {x y : Nat} {c : Bool} (hx : x < 2 ^ 64) (hy : y < 2 ^ 64) (h : fLe x y = c) : (FloatKind.f64.format.order x y == some .lt || FloatKind.f64.format.order x y == some .eq) = c := (f_leq x y hx hy).trans h

/-- there and back -/
theorem at_of (a : Nat) (ha : a < 2 ^ 64) : ∃ v, v < 2 ^ 64 ∧ fkey v = fkey a ∧ isNaN v = isNaN a ∧ (fkey v = 9218868437227405312 → v = 0) ∧ atBits (fkey a) = v := by
  have h := fkey_bounds ha
  refine ⟨_, atBits_lt _ h.1 h.2, fkey_at _ h.1 h.2, ?_, ?_, rfl⟩
  · rw [atBits_nan _ h.1 h.2]
    by_cases hn : isNaN a = true
    · rw [hn, fkey_nan hn]; rfl
    · have hn' : isNaN a = false := by simpa using hn
      have := fkey_le ha hn'
      rw [hn', decide_eq_false_iff_not]; omega
  · rw [fkey_at _ h.1 h.2]
    intro e
    rw [e]; decide +kernel

/-- a key's number -/
theorem num_of (k : Int) (h0 : 0 ≤ k) (h1 : k ≤ 18437736874454810624) : ∃ v, v < 2 ^ 64 ∧ fkey v = k ∧ isNaN v = false ∧ atBits k = v :=
  ⟨_, atBits_lt _ h0 (by omega), fkey_at _ h0 (by omega), by rw [atBits_nan _ h0 (by omega), decide_eq_false_iff_not]; omega, rfl⟩
theorem next_nan {a : Nat} (h : isNaN a = true) : nextE a = 60 := by unfold nextE; rw [if_pos h]
theorem next_end {a : Nat} (h : isNaN a = false) (h1 : fkey a = 18437736874454810624) : nextE a = 61 := by unfold nextE; rw [if_neg (by simp [h]), if_pos h1]
theorem next_ok {a : Nat} (h : isNaN a = false) (h1 : fkey a ≠ 18437736874454810624) : nextE a = 0 ∧ nextB a = atBits (fkey a + 1) := by
  unfold nextE nextB; rw [if_neg (by simp [h]), if_neg h1, if_neg (by simp [h]), if_neg h1]; exact ⟨rfl, rfl⟩
theorem prev_ok {a : Nat} (h : isNaN a = false) (h1 : fkey a ≠ 0) : prevE a = 0 ∧ prevB a = atBits (fkey a - 1) := by
  unfold prevE prevB; rw [if_neg (by simp [h]), if_neg h1, if_neg (by simp [h]), if_neg h1]; exact ⟨rfl, rfl⟩

set_option maxRecDepth 100000 in
theorem isinf_pos (a : Nat) (ha : a < 2 ^ 64) (hn : isNaN a = false) (hk : fkey a = 18437736874454810624) (w : World) :
    Calls Try.prog 40 #[.float .f64 a, .int .i64 1] w fun e w' => e = .returned (.bool true) ∧ w = w' := by
  have e1 := G1 (x := a) (y := 9218868437227405311) ha (by omega) (show _ = true by
    rw [fLt_key (by decide +kernel) hn, hk]; decide +kernel)
  clear hk hn
  go_enter Try.func40, Try.ntmps40
  go_wp2
  go_ret
  exact ⟨rfl, rfl⟩
end Go.Proofs.Ytdjmdnppkchgmaa
