/-
 order.Key answers the number's key.
-/
import Derived.Test.YtfmjgjfbnilpoaaFk
import Derived.Test.YtfmjgjfbnilpoaaProg
import Derived.WalkKit
import Derived.WalkLawsBesides
import Derived.Lib.Hide
import Derived.Outline
namespace Go.Proofs.Ytfmjgjfbnilpoaa
open Go.RowKit
set_option linter.unusedVariables false

theorem run_bits (b : Nat) (w : World) : (callFunc 47 #[.float .f64 b]).run Try.prog w = .ok (.value (.int .u64 b)) w := by kernel_rfl

theorem ret_u64 {a b : Int} (h : a = b) : Ending.returned (.int .u64 a) = .returned (.int .u64 b) := by rw [h]
theorem fkey_nan {b : Nat} (h : isNaN b = true) : fkey b = 18437736874454810625 := by unfold fkey; rw [if_pos h]
theorem fkey_pos {b : Nat} (h : isNaN b = false) (h1 : b < 9223372036854775808) : fkey b = 9218868437227405312 + b := by
 unfold fkey place SGN; rw [if_neg (by simp [h]), if_pos (by omega)]
theorem fkey_neg {b : Nat} (h : isNaN b = false) (h1 : 9223372036854775808 ≤ b) : fkey b = 9218868437227405312 - ((b - 9223372036854775808 : Nat) : Int) := by
 unfold fkey place SGN; rw [if_neg (by simp [h]), if_neg (by omega)]; omega
theorem nan_bounds {b : Nat} (h : isNaN b = false) : b % 9223372036854775808 ≤ 9218868437227405312 := by
 unfold isNaN SGN INF at h; simp at h; exact h

set_option maxRecDepth 100000 in
theorem key_any (b : Nat) (hb : b < 2 ^ 64) (w : World) :
  Calls Try.prog 27 #[.float .f64 b] w fun e w' => e = .returned (.int .u64 (fkey b)) ∧ w = w' := by
 have h1 := f_neq b b hb hb
 rw [fEq_self] at h1
 have r1 := run_bits b
 have hz : 0 ≤ (b : Int) ∧ (b : Int) < 18446744073709551616 := by omega
 by_cases hn : isNaN b = true
 ·rw [hn] at h1
  have hf := Lib.hid (fkey_nan hn)
  go_enter Try.func27, Try.ntmps27
  go_wp2
  go_ret
  exact ⟨ret_u64 hf.out.symm, rfl⟩
 ·have hn : isNaN b = false := by simpa using hn
  rw [hn] at h1
  have hm := nan_bounds hn
  by_cases hs : b < 9223372036854775808
  ·have hf := Lib.hid (fkey_pos hn hs)
   clear hn
   go_enter Try.func27, Try.ntmps27
   go_wp2
   go_ret
   exact ⟨ret_u64 hf.out.symm, rfl⟩
  ·have hf := Lib.hid (fkey_neg hn (by omega))
   clear hn
   go_enter Try.func27, Try.ntmps27
   go_wp2
   go_ret
   exact ⟨ret_u64 (by rw [bits_andNot_sgn b (by omega), IntKind.wrap_u64, hf.out]; omega), rfl⟩
end Go.Proofs.Ytfmjgjfbnilpoaa
