/-
  What the printed functions of package order (and the document's) answer: plain facts, for all numbers.
-/
import Derived.Test.YtmkmooifgcdocaaEv
import Derived.Test.YtmkmooifgcdocaaFAllx9
import Derived.Test.YtmkmooifgcdocaaFAllx11
namespace Go.Proofs.Ytmkmooifgcdocaa
set_option linter.unusedVariables false
open Go.RowKit Go.Proofs.Ytmkmooifgcdocaa.FAll Go.Proofs.YtmkmooifgcdocaaW.PrintWords Go.Proofs.YtmkmooifgcdocaaW.PrintLast Go.Proofs.YtmkmooifgcdocaaW.PrintMore

theorem key_f {a : Nat} (ha : a < 2 ^ 64) : order_Key.f a = some (fkey a) := by
  unfold order_Key.f
  rw [feq_self ha]
  cases h : isNaN a
  · have hm := nan_b h
    rw [if_pos (by rfl)]
    unfold f64bits
    by_cases hs : a < 9223372036854775808
    · rw [if_pos (by omega), wu64 (by omega) (by omega), fkey_p h hs]
    · rw [if_neg (by omega), bits_andNot_sgn a (by omega), wu64 (by omega) (by omega), fkey_n h (by omega)]
      exact congrArg some (by omega)
  · rw [if_neg (by decide), fkey_x h]

theorem sign_f {a : Nat} (ha : a < 2 ^ 64) : math_Signbit.f a = some (decide (9223372036854775808 ≤ a)) := by
  unfold math_Signbit.f f64bits
  congr 1
  rw [decide_eq_decide]
  unfold wrap64
  omega

theorem cmp_f (x y : Int) : cmp_Compare_uint64.f x y = some (icmp x y) := by
  unfold cmp_Compare_uint64.f cmp_isNaN_uint64.f icmp
  simp only [bne_self_eq_false, Option.bind_some, Bool.false_eq_true, if_false]
  by_cases h : x < y
  · rw [if_pos h, if_pos h]
  · rw [if_neg h, if_neg h]
    by_cases h2 : x > y
    · rw [if_pos h2, if_pos h2]
    · rw [if_neg h2, if_neg h2]

theorem compare_f {a b : Nat} (ha : a < 2 ^ 64) (hb : b < 2 ^ 64) : order_Compare.f a b = some (icmp (fkey a) (fkey b)) := by
  unfold order_Compare.f
  rw [key_f ha, key_f hb]
  simp only [Option.bind_some]
  rw [cmp_f]
  rfl

theorem nan_t {b : Nat} (h : isNaN b = true) : 9218868437227405312 < b % 9223372036854775808 := by
  have := of_decide_eq_true h
  unfold SGN INF at this
  omega
theorem rnan_f {a : Nat} (ha : a < 2 ^ 64) : thicketref06_NaN.f (a : Int) = some (isNaN a) := by
  unfold thicketref06_NaN.f
  rw [bits_andNot_sgn a (by omega)]
  cases h : isNaN a
  · have hm := nan_b h
    congr 1
    exact decide_eq_false (by omega)
  · have hm := nan_t h
    congr 1
    exact decide_eq_true (by omega)
theorem rkey_f {a : Nat} (ha : a < 2 ^ 64) : thicketref06_Key.f (a : Int) = some (fkey a) := by
  unfold thicketref06_Key.f
  rw [bits_andNot_sgn a (by omega)]
  cases h : isNaN a
  · have hm := nan_b h
    rw [if_neg (by omega)]
    by_cases hs : a < 9223372036854775808
    · rw [if_pos (by omega), wu64 (by omega) (by omega), fkey_p h hs]
      exact congrArg some (by omega)
    · rw [if_neg (by omega), wu64 (by omega) (by omega), fkey_n h (by omega)]
      exact congrArg some (by omega)
  · have hm := nan_t h
    rw [if_pos (by omega), fkey_x h]
theorem at_f {k : Int} (h0 : 0 ≤ k) (h1 : k < 18437736874454810625) : order_At.f k = some (atBits k, 0) := by
  have e : k ≠ 18437736874454810625 := by omega
  unfold order_At.f atBits
  by_cases h : 9218868437227405312 ≤ k
  · simp only [if_neg (show ¬ k > 18437736874454810625 by omega), if_neg e, ge_iff_le, if_pos h]
    rw [wu64 (by omega) (by omega)]
    rfl
  · simp only [if_neg (show ¬ k > 18437736874454810625 by omega), if_neg e, ge_iff_le, if_neg h]
    rw [wu64 (by omega) (by omega), bits_or_sgn _ (by omega) (by omega)]
    rfl
theorem rat_f {k : Int} (h0 : 0 ≤ k) (h1 : k < 18437736874454810625) : thicketref06_At.f k = some (((atBits k : Nat) : Int), 0) := by
  have e : k ≠ 18437736874454810625 := by omega
  unfold thicketref06_At.f atBits
  by_cases h : 9218868437227405312 ≤ k
  · simp only [if_neg (show ¬ k > 18437736874454810625 by omega), if_neg e, if_pos h, if_neg (show ¬ k < 9218868437227405312 by omega)]
    rw [wu64 (by omega) (by omega), Int.toNat_of_nonneg (by omega)]
  · simp only [if_neg (show ¬ k > 18437736874454810625 by omega), if_neg e, if_neg h, if_pos (show k < 9218868437227405312 by omega)]
    rw [wu64 (by omega) (by omega), bits_or_sgn' _ (by omega) (by omega), Int.toNat_of_nonneg (by omega)]
theorem prev_f {a : Nat} (ha : a < 2 ^ 64) (na : isNaN a = false) : order_Prev.f a = some (if fkey a = 0 then (0, 61) else (atBits (fkey a - 1), 0)) := by
  have hb := fkey_bounds (b := a) (by omega)
  have hl := fkey_le (b := a) (by omega) na
  unfold order_Prev.f order_step.f
  rw [feq_self ha, na, if_pos (by rfl), key_f ha]
  simp only [Option.bind_some]
  by_cases h : fkey a = 0
  · rw [if_pos h, if_pos h]; rfl
  · rw [if_neg h, if_neg h, show IntKind.u64.wrap (fkey a + 18446744073709551615) = fkey a - 1 from by rw [IntKind.wrap_u64]; omega, at_f (by omega) (by omega)]
    rfl
theorem next_f {a : Nat} (ha : a < 2 ^ 64) (na : isNaN a = false) : order_Next.f a = some (if fkey a = 18437736874454810624 then (0, 61) else (atBits (fkey a + 1), 0)) := by
  have hb := fkey_bounds (b := a) (by omega)
  have hl := fkey_le (b := a) (by omega) na
  unfold order_Next.f order_step.f
  rw [feq_self ha, na, if_pos (by rfl), key_f ha]
  simp only [Option.bind_some]
  by_cases h : fkey a = 18437736874454810624
  · rw [if_pos h, if_pos h]; rfl
  · rw [if_neg h, if_neg h, wu64 (by omega) (by omega), at_f (by omega) (by omega)]
    rfl
theorem rprev_f {a : Nat} (ha : a < 2 ^ 64) (na : isNaN a = false) : thicketref06_Step.f (a : Int) (-1) = some (if fkey a = 0 then (0, 61) else (((atBits (fkey a - 1) : Nat) : Int), 0)) := by
  have hb := fkey_bounds (b := a) (by omega)
  have hl := fkey_le (b := a) (by omega) na
  unfold thicketref06_Step.f
  rw [rkey_f ha, rnan_f ha, na]
  simp only [Option.bind_some]
  rw [if_neg (by decide), if_neg (by omega), if_pos (by omega)]
  by_cases h : fkey a = 0
  · rw [if_pos h, if_pos h]
  · rw [if_neg h, if_neg h, show IntKind.u64.wrap (fkey a + IntKind.u64.wrap (-1)) = fkey a - 1 from by rw [IntKind.wrap_u64, IntKind.wrap_u64]; omega, rat_f (by omega) (by omega)]
    rfl
theorem rnext_f {a : Nat} (ha : a < 2 ^ 64) (na : isNaN a = false) : thicketref06_Step.f (a : Int) 1 = some (if fkey a = 18437736874454810624 then (0, 61) else (((atBits (fkey a + 1) : Nat) : Int), 0)) := by
  have hb := fkey_bounds (b := a) (by omega)
  have hl := fkey_le (b := a) (by omega) na
  unfold thicketref06_Step.f
  rw [rkey_f ha, rnan_f ha, na]
  simp only [Option.bind_some]
  rw [if_neg (by decide), if_pos (by omega)]
  by_cases h : fkey a = 18437736874454810624
  · rw [if_pos h, if_pos h]
  · rw [if_neg h, if_neg (by omega), if_neg h, show IntKind.u64.wrap (fkey a + IntKind.u64.wrap 1) = fkey a + 1 from by rw [IntKind.wrap_u64, IntKind.wrap_u64]; omega, rat_f (by omega) (by omega)]
    rfl
end Go.Proofs.Ytmkmooifgcdocaa
