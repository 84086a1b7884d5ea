/-
  Walks of the functions of package order over single numbers (Key, At, Compare), without the document's.
-/
import Derived.Test.YtdhiljimmijghaaFk
import Derived.Test.YtdhiljimmijghaaProg
import Derived.WalkKit
import Derived.WalkLawsBesides
import Derived.Lib.Hide
import Derived.Outline
namespace Go.Proofs.Ytdhiljimmijghaa
open Go.RowKit
set_option linter.unusedVariables false

theorem run_bits (b : Nat) (w : World) : (callFunc 19 #[.float .f64 b]).run Try.prog w = .ok (.value (.int .u64 b)) w := by kernel_rfl
theorem run_frombits (n : Int) (w : World) : (callFunc 7 #[.int .u64 n]).run Try.prog w = .ok (.value (.float .f64 n.toNat)) w := by kernel_rfl

theorem ret_u64 {a b : Int} (h : a = b) : Ending.returned (.int .u64 a) = .returned (.int .u64 b) := by rw [h]
theorem ret_bool {a b : Bool} (h : a = b) : Ending.returned (.bool a) = .returned (.bool b) := by rw [h]
theorem fkey_nan {b : Nat} (h : isNaN b = true) : fkey b = 18437736874454810625 := by unfold fkey; rw [if_pos h]
theorem fkey_pos {b : Nat} (h : isNaN b = false) (h1 : b < 9223372036854775808) : fkey b = 9218868437227405312 + b := by
  unfold fkey place SGN; rw [if_neg (by simp [h]), if_pos (by omega)]
theorem fkey_neg {b : Nat} (h : isNaN b = false) (h1 : 9223372036854775808 ≤ b) : fkey b = 9218868437227405312 - ((b - 9223372036854775808 : Nat) : Int) := by
  unfold fkey place SGN; rw [if_neg (by simp [h]), if_neg (by omega)]; omega
theorem nan_bounds {b : Nat} (h : isNaN b = false) : b % 9223372036854775808 ≤ 9218868437227405312 := by
  unfold isNaN SGN INF at h; simp at h; exact h

set_option maxRecDepth 100000 in
theorem key_any (b : Nat) (hb : b < 2 ^ 64) (w : World) :
    Calls Try.prog 24 #[.float .f64 b] w fun e w' => e = .returned (.int .u64 (fkey b)) ∧ w = w' := by
  have h1 := f_neq b b hb hb
  rw [fEq_self] at h1
  have r1 := run_bits b
  have hz : 0 ≤ (b : Int) ∧ (b : Int) < 18446744073709551616 := by omega
  by_cases hn : isNaN b = true
  · rw [hn] at h1
    have hf := Lib.hid (fkey_nan hn)
    go_enter Try.func24, Try.ntmps24
    go_wp2
    go_ret
    exact ⟨ret_u64 hf.out.symm, rfl⟩
  · have hn : isNaN b = false := by simpa using hn
    rw [hn] at h1
    have hm := nan_bounds hn
    by_cases hs : b < 9223372036854775808
    · have hf := Lib.hid (fkey_pos hn hs)
      clear hn
      go_enter Try.func24, Try.ntmps24
      go_wp2
      go_ret
      exact ⟨ret_u64 hf.out.symm, rfl⟩
    · have hf := Lib.hid (fkey_neg hn (by omega))
      clear hn
      go_enter Try.func24, Try.ntmps24
      go_wp2
      go_ret
      exact ⟨ret_u64 (by rw [bits_andNot_sgn b (by omega), IntKind.wrap_u64, hf.out]; omega), rfl⟩

theorem ret_fe {a b : Nat} (h : a = b) (c : Int) : Ending.returned (.tuple #[.float .f64 a, .int .i64 c]) = .returned (.tuple #[.float .f64 b, .int .i64 c]) := by rw [h]
theorem ret_ue {a b : Int} (h : a = b) (c : Int) : Ending.returned (.tuple #[.int .u64 a, .int .i64 c]) = .returned (.tuple #[.int .u64 b, .int .i64 c]) := by rw [h]

/-! ### At -/
set_option maxRecDepth 100000 in
theorem at_far (k : Int) (h1 : 18437736874454810625 < k) (h2 : k < 18446744073709551616) (w : World) :
    Calls Try.prog 26 #[.int .u64 k] w fun e w' => e = .returned (.tuple #[.float .f64 0, .int .i64 2]) ∧ w = w' := by
  go_enter Try.func26, Try.ntmps26
  go_wp2
  go_ret2
  exact ⟨rfl, rfl⟩
set_option maxRecDepth 100000 in
theorem at_in (k : Int) (h0 : 0 ≤ k) (h1 : k ≤ 18437736874454810625) (w : World) :
    Calls Try.prog 26 #[.int .u64 k] w fun e w' => e = .returned (.tuple #[.float .f64 (atBits k), .int .i64 0]) ∧ w = w' := by
  have r1 := run_frombits
  by_cases hn : k = 18437736874454810625
  · have ht : (k == 18437736874454810625) = true := by simpa using hn
    have hf := Lib.hid (show atBits k = 9221120237041090561 by unfold atBits; rw [if_pos hn])
    clear hn
    go_enter Try.func26, Try.ntmps26
    go_wp2
    go_ret2
    exact ⟨ret_fe hf.out.symm _, rfl⟩
  · have ht : (k == 18437736874454810625) = false := by simpa using hn
    by_cases hk : 9218868437227405312 ≤ k
    · have hf := Lib.hid (show atBits k = (k - 9218868437227405312).toNat by unfold atBits; rw [if_neg hn, if_pos hk])
      clear hn
      go_enter Try.func26, Try.ntmps26
      go_wp2
      go_ret2
      exact ⟨ret_fe hf.out.symm _, rfl⟩
    · have hf := Lib.hid (show atBits k = (9223372036854775808 + (9218868437227405312 - k)).toNat by unfold atBits; rw [if_neg hn, if_neg hk])
      have ho := Lib.hid (bits_or_sgn (9218868437227405312 - k) (by omega) (by omega))
      clear hn
      go_enter Try.func26, Try.ntmps26
      go_wp2
      go_ret2
      exact ⟨ret_fe (by rw [hf.out, ho.out]) _, rfl⟩
/-! ### Compare -/
theorem ret_i64 {a b : Int} (h : a = b) : Ending.returned (.int .i64 a) = .returned (.int .i64 b) := by rw [h]
theorem cmp_any (x y : Int) (w : World) :
    Calls Try.prog 30 #[.int .u64 x, .int .u64 y] w fun e w' => e = .returned (.int .i64 (icmp x y)) ∧ w = w' := by
  have hx : (x != x) = false := by simp
  have hy : (y != y) = false := by simp
  rcases Int.lt_trichotomy x y with h | h | h
  · have hf := Lib.hid (show icmp x y = -1 by unfold icmp; rw [if_pos h])
    go_enter Try.func30, Try.ntmps30
    go_wp2
    go_ret
    exact ⟨ret_i64 hf.out.symm, rfl⟩
  · have hf := Lib.hid (show icmp x y = 0 by unfold icmp; rw [if_neg (by omega), if_neg (by omega)])
    have h1 : x ≤ y := by omega
    have h2 : y ≤ x := by omega
    clear h
    go_enter Try.func30, Try.ntmps30
    go_wp2
    go_ret
    exact ⟨ret_i64 hf.out.symm, rfl⟩
  · have hf := Lib.hid (show icmp x y = 1 by unfold icmp; rw [if_neg (by omega), if_pos h])
    go_enter Try.func30, Try.ntmps30
    go_wp2
    go_ret
    exact ⟨ret_i64 hf.out.symm, rfl⟩
theorem compare_any (x y : Nat) (hx : x < 2 ^ 64) (hy : y < 2 ^ 64) (w : World) :
    Calls Try.prog 17 #[.float .f64 x, .float .f64 y] w fun e w' => e = .returned (.int .i64 (icmp (fkey x) (fkey y))) ∧ w = w' := by
  go_enter Try.func17, Try.ntmps17
  go_wp2_with fail
  refine (key_any _ hx _).mono ?_
  rintro e w' ⟨rfl, rfl⟩
  go_wp2_with fail
  refine (key_any _ hy _).mono ?_
  rintro e w' ⟨rfl, rfl⟩
  go_wp2_with fail
  refine (cmp_any _ _ _).mono ?_
  rintro e w' ⟨rfl, rfl⟩
  go_wp2_with fail
  go_ret
  exact ⟨rfl, rfl⟩
end Go.Proofs.Ytdhiljimmijghaa
