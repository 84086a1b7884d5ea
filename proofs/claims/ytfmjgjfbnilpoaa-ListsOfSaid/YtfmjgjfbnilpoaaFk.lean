/-
 Plain facts on binary64 numbers by their bits: the order of two numbers is that of whole numbers made of their bits. Conditions: none beyond the bits being below 2^64.
-/
import Derived.Laws.Cover2
import Derived.Laws.BitsAllLaws
namespace Go.Proofs.Ytfmjgjfbnilpoaa
open Ieee

/-- what a rung is worth, in units of the least place -/
def rungVal (B r : Nat) : Nat := if r < B then r else (B + r % B) * 2 ^ (r / B - 1)

theorem rungVal_succ (B r : Nat) (hB : 0 < B) : rungVal B r < rungVal B (r + 1) := by
 unfold rungVal
 by_cases h1 : r + 1 < B
 ·rw [if_pos h1, if_pos (by omega)]; omega
 ·rw [if_neg h1]
  by_cases h2 : r < B
  ·rw [if_pos h2]
   have e : r + 1 = B := by omega
   rw [e, Nat.mod_self, Nat.div_self hB]
   simp
   omega
  ·rw [if_neg h2]
   have hq : r / B ≥ 1 := (Nat.one_le_div_iff hB).2 (by omega)
   have hr := Nat.mod_lt r hB
   have hd := Nat.div_add_mod r B
   by_cases h3 : r % B + 1 = B
   ·have e : r + 1 = B * (r / B + 1) := by rw [Nat.mul_add]; omega
    have e1 : (r + 1) / B = r / B + 1 := by rw [e]; exact Nat.mul_div_cancel_left _ hB
    have e2 : (r + 1) % B = 0 := by rw [e]; exact Nat.mul_mod_right ..
    rw [e1, e2]
    obtain ⟨q, hq'⟩ : ∃ q, r / B = q + 1 := ⟨r / B - 1, by omega⟩
    rw [hq']
    simp only [Nat.add_sub_cancel, Nat.add_zero]
    rw [Nat.pow_succ]
    have hp : 0 < 2 ^ q := Nat.two_pow_pos q
    have : (B + r % B) * 2 ^ q < (B * 2) * 2 ^ q := Nat.mul_lt_mul_of_pos_right (by omega) hp
    calc (B + r % B) * 2 ^ q < (B * 2) * 2 ^ q := this
     _ = B * (2 ^ q * 2) := by rw [Nat.mul_assoc, Nat.mul_comm 2]
   ·have e1 : (r + 1) / B = r / B := by
     rw [show r + 1 = (r % B + 1) + B * (r / B) by omega, Nat.add_mul_div_left _ _ hB, Nat.div_eq_of_lt (by omega)]; omega
    have e2 : (r + 1) % B = r % B + 1 := by
     rw [show r + 1 = (r % B + 1) + B * (r / B) by omega, Nat.add_mul_mod_self_left, Nat.mod_eq_of_lt (by omega)]
    rw [e1, e2]
    exact Nat.mul_lt_mul_of_pos_right (by omega) (Nat.two_pow_pos _)

theorem rungVal_mono (B : Nat) (hB : 0 < B) {r s : Nat} (h : r < s) : rungVal B r < rungVal B s := by
 obtain ⟨k, rfl⟩ : ∃ k, s = r + 1 + k := ⟨s - (r + 1), by omega⟩
 clear h
 induction k with
 | zero => exact rungVal_succ B r hB
 | succ k ih => exact Nat.lt_trans ih (rungVal_succ B _ hB)

/-- a whole number with a sign -/
def sgn (s : Bool) (n : Nat) : Int := if s then -(n : Int) else n

theorem compare_sgn (f : Nat → Nat) (h0 : f 0 = 0) (hf : ∀ r s, r < s → f r < f s) (s t : Bool) (m n : Nat) :
  compare (sgn s (f m)) (sgn t (f n)) = compare (sgn s m) (sgn t n) := by
 have hmn : (m < n ∧ f m < f n) ∨ (m = n) ∨ (n < m ∧ f n < f m) := by
  rcases Nat.lt_trichotomy m n with h | h | h
  ·exact .inl ⟨h, hf _ _ h⟩
  ·exact .inr (.inl h)
  ·exact .inr (.inr ⟨h, hf _ _ h⟩)
 have hm : m = 0 ∨ (0 < m ∧ 0 < f m) := by
  rcases Nat.eq_zero_or_pos m with h | h
  ·exact .inl h
  ·exact .inr ⟨h, by have := hf _ _ h; omega⟩
 have hn : n = 0 ∨ (0 < n ∧ 0 < f n) := by
  rcases Nat.eq_zero_or_pos n with h | h
  ·exact .inl h
  ·exact .inr ⟨h, by have := hf _ _ h; omega⟩
 have hm0 : m = 0 → f m = 0 := fun e => by rw [e]; exact h0
 have hn0 : n = 0 → f n = 0 := fun e => by rw [e]; exact h0
 have hmn0 : m = n → f m = f n := fun e => by rw [e]
 have key : ∀ a b c d : Int, ((a < b) ↔ (c < d)) → ((a = b) ↔ (c = d)) → compare a b = compare c d := by
  intro a b c d h1 h2
  simp only [compare, compareOfLessAndEq]
  by_cases ha : a < b
  ·rw [if_pos ha, if_pos (h1.1 ha)]
  ·rw [if_neg ha, if_neg (fun h => ha (h1.2 h))]
   by_cases hb : a = b
   ·rw [if_pos hb, if_pos (h2.1 hb)]
   ·rw [if_neg hb, if_neg (fun h => hb (h2.2 h))]
 apply key <;> cases s <;> cases t <;> simp only [sgn, if_true, if_false, Bool.false_eq_true] <;> omega

theorem compare_mul (a b : Int) (k : Nat) (hk : 0 < k) : compare (a * k) (b * k) = compare a b := by
 have h1 : (a * k < b * k) ↔ a < b := by
  constructor
  ·intro h; exact Int.lt_of_mul_lt_mul_right h (by omega)
  ·intro h; exact Int.mul_lt_mul_of_pos_right h (by omega)
 have h2 : (a * k = b * k) ↔ a = b := by
  constructor
  ·intro h; exact Int.eq_of_mul_eq_mul_right (by omega) h
  ·intro h; rw [h]
 simp only [compare, compareOfLessAndEq]
 by_cases ha : a < b
 ·rw [if_pos ha, if_pos (h1.2 ha)]
 ·rw [if_neg ha, if_neg (fun h => ha (h1.1 h))]
  by_cases hb : a = b
  ·rw [if_pos hb, if_pos (h2.2 hb)]
  ·rw [if_neg hb, if_neg (fun h => hb (h2.1 h))]

/-- the bits of infinity; the weight of the sign -/
def INF : Nat := 2047 * 2 ^ 52
def SGN : Nat := 2 ^ 63
def isNaN (b : Nat) : Bool := decide (b % SGN > INF)
/-- a number's place on the line: the order of two that are no NaN is that of their places -/
def place (b : Nat) : Int := if b < SGN then (b : Int) else -((b - SGN : Nat) : Int)

theorem place_sgn {b : Nat} (h : b < 2 ^ 64) : place b = sgn (b / 2 ^ 63 % 2 == 1) (b % 2 ^ 63) := by
 unfold place SGN
 by_cases h1 : b < 2 ^ 63
 ·rw [if_pos h1]
  have e : (b / 2 ^ 63 % 2 == 1) = false := by rw [beq_eq_false_iff_ne]; omega
  rw [e]
  simp only [sgn, Bool.false_eq_true, if_false]
  omega
 ·rw [if_neg h1]
  have e : (b / 2 ^ 63 % 2 == 1) = true := by rw [beq_iff_eq]; omega
  rw [e]
  simp only [sgn, if_true]
  omega

theorem signed_sgn (s : Bool) (m k : Nat) : signed s m k = sgn s (m * 2 ^ k) := by
 unfold signed sgn
 rw [Nat.shiftLeft_eq]

theorem sgn_mul (s : Bool) (m k : Nat) : sgn s (m * k) = sgn s m * k := by
 unfold sgn
 split
 ·rw [Int.natCast_mul, Int.neg_mul]
 ·rw [Int.natCast_mul]

theorem order_numbers (s t : Bool) (m n e d : Nat) (L : Int) :
  (Datum.number s m (L + e)).order (Datum.number t n (L + d)) = some (compare (sgn s (m * 2 ^ e)) (sgn t (n * 2 ^ d))) := by
 simp only [Datum.order, Option.some.injEq]
 have hb : min (L + (e : Int)) (L + (d : Int)) = L + (min e d : Nat) := by omega
 rw [hb, signed_sgn, signed_sgn]
 have h1 : (L + (e : Int) - (L + ((min e d : Nat) : Int))).toNat = e - min e d := by omega
 have h2 : (L + (d : Int) - (L + ((min e d : Nat) : Int))).toNat = d - min e d := by omega
 rw [h1, h2, ← compare_mul _ _ (2 ^ min e d) (Nat.two_pow_pos _), ← sgn_mul, ← sgn_mul, Nat.mul_assoc, Nat.mul_assoc, ← Nat.pow_add, ← Nat.pow_add,
  show e - min e d + min e d = e by omega, show d - min e d + min e d = d by omega]

theorem double_binade : double.binade = 2 ^ 52 := rfl
theorem double_inf : double.infRung = 2047 * 2 ^ 52 := rfl
theorem double_sign : double.signWeight = 2 ^ 63 := rfl

/-- what the bits of a finite number stand for -/
theorem read_number (b : Nat) (h : b % 2 ^ 63 < 2047 * 2 ^ 52) : ∃ m e : Nat, double.read b = .number (b / 2 ^ 63 % 2 == 1) m (double.leastPlace + e) ∧ m * 2 ^ e = rungVal (2 ^ 52) (b % 2 ^ 63) := by
 unfold Format.read
 rw [double_binade, double_inf, double_sign]
 simp only
 by_cases h1 : b % 2 ^ 63 < 2 ^ 52
 ·rw [if_pos h1]
  refine ⟨b % 2 ^ 63, 0, by simp, ?_⟩
  rw [rungVal, if_pos h1]; simp
 ·rw [if_neg h1, if_pos h]
  exact ⟨_, _, rfl, by rw [rungVal, if_neg h1]⟩

theorem read_inf (b : Nat) (h : b % 2 ^ 63 = 2047 * 2 ^ 52) : double.read b = .infinity (b / 2 ^ 63 % 2 == 1) := by
 unfold Format.read
 rw [double_binade, double_inf, double_sign]
 simp only
 rw [if_neg (by omega), if_neg (by omega), if_pos h]

theorem read_nan (b : Nat) (h : 2047 * 2 ^ 52 < b % 2 ^ 63) : double.read b = .nan (b / 2 ^ 63 % 2 == 1) (b % 2 ^ 63 - 2047 * 2 ^ 52) := by
 unfold Format.read
 rw [double_binade, double_inf, double_sign]
 simp only
 rw [if_neg (by omega), if_neg (by omega), if_neg (by omega)]

theorem compare_lt {a b : Int} (h : a < b) : compare a b = .lt := by simp only [compare, compareOfLessAndEq]; rw [if_pos h]
theorem compare_eq {a b : Int} (h : a = b) : compare a b = .eq := by simp only [compare, compareOfLessAndEq]; rw [if_neg (by omega), if_pos h]
theorem compare_gt {a b : Int} (h : b < a) : compare a b = .gt := by simp only [compare, compareOfLessAndEq]; rw [if_neg (by omega), if_neg (by omega)]

/-- THE ORDER OF TWO NUMBERS is that of their places; of a NaN there is none. -/
theorem order_place (x y : Nat) (hx : x < 2 ^ 64) (hy : y < 2 ^ 64) :
  double.order x y = if isNaN x || isNaN y then none else some (compare (place x) (place y)) := by
 unfold Format.order
 have mx : x % 2 ^ 63 < 2 ^ 63 := Nat.mod_lt _ (by omega)
 have my : y % 2 ^ 63 < 2 ^ 63 := Nat.mod_lt _ (by omega)
 rw [place_sgn hx, place_sgn hy]
 generalize hs : (x / 2 ^ 63 % 2 == 1) = s
 generalize ht : (y / 2 ^ 63 % 2 == 1) = t
 have nx : isNaN x = decide (2047 * 2 ^ 52 < x % 2 ^ 63) := rfl
 have ny : isNaN y = decide (2047 * 2 ^ 52 < y % 2 ^ 63) := rfl
 rcases Nat.lt_trichotomy (x % 2 ^ 63) (2047 * 2 ^ 52) with h | h | h
 ·have qx : isNaN x = false := by rw [nx, decide_eq_false_iff_not]; omega
  obtain ⟨m, e, hr, hv⟩ := read_number x h
  rcases Nat.lt_trichotomy (y % 2 ^ 63) (2047 * 2 ^ 52) with g | g | g
  ·have qy : isNaN y = false := by rw [ny, decide_eq_false_iff_not]; omega
   obtain ⟨n, d, gr, gv⟩ := read_number y g
   rw [hr, gr, order_numbers, hv, gv, hs, ht, qx, qy]
   simp only [Bool.or_self, Bool.false_eq_true, if_false, Option.some.injEq]
   exact compare_sgn (rungVal (2 ^ 52)) (by simp [rungVal]) (fun _ _ hl => rungVal_mono _ (by omega) hl) s t _ _
  ·have qy : isNaN y = false := by rw [ny, decide_eq_false_iff_not]; omega
   rw [hr, read_inf y g, hs, ht, qx, qy]
   simp only [Datum.order, Bool.or_self, Bool.false_eq_true, if_false, Option.some.injEq]
   cases t
   ·simp only [Bool.false_eq_true, if_false]
    exact (compare_lt (by cases s <;> simp [sgn] <;> omega)).symm
   ·simp only [if_true]
    exact (compare_gt (by cases s <;> simp [sgn] <;> omega)).symm
  ·have qy : isNaN y = true := by rw [ny, decide_eq_true_eq]; omega
   rw [hr, read_nan y g, qy]
   simp [Datum.order]
 ·have qx : isNaN x = false := by rw [nx, decide_eq_false_iff_not]; omega
  rw [read_inf x h, hs]
  rcases Nat.lt_trichotomy (y % 2 ^ 63) (2047 * 2 ^ 52) with g | g | g
  ·have qy : isNaN y = false := by rw [ny, decide_eq_false_iff_not]; omega
   obtain ⟨n, d, gr, gv⟩ := read_number y g
   rw [gr, ht, qx, qy]
   simp only [Datum.order, Bool.or_self, Bool.false_eq_true, if_false, Option.some.injEq]
   cases s
   ·simp only [Bool.false_eq_true, if_false]
    exact (compare_gt (by cases t <;> simp [sgn] <;> omega)).symm
   ·simp only [if_true]
    exact (compare_lt (by cases t <;> simp [sgn] <;> omega)).symm
  ·have qy : isNaN y = false := by rw [ny, decide_eq_false_iff_not]; omega
   rw [read_inf y g, ht, qx, qy]
   simp only [Datum.order, Bool.or_self, Bool.false_eq_true, if_false, Option.some.injEq]
   rw [h, g]
   cases s <;> cases t <;> simp [sgn] <;> rfl
  ·have qy : isNaN y = true := by rw [ny, decide_eq_true_eq]; omega
   rw [read_nan y g, qy]
   simp [Datum.order]
 ·have qx : isNaN x = true := by rw [nx, decide_eq_true_eq]; omega
  rw [read_nan x h, qx]
  simp [Datum.order]

/-! the comparisons, as a walk writes them -/
def fEq (x y : Nat) : Bool := !isNaN x && !isNaN y && decide (place x = place y)
def fLt (x y : Nat) : Bool := !isNaN x && !isNaN y && decide (place x < place y)
def fLe (x y : Nat) : Bool := !isNaN x && !isNaN y && decide (place x ≤ place y)

theorem order_cases (x y : Nat) (hx : x < 2 ^ 64) (hy : y < 2 ^ 64) :
  (double.order x y == some .eq) = fEq x y ∧ (double.order x y == some .lt) = fLt x y ∧ (double.order x y == some .gt) = fLt y x := by
 rw [order_place x y hx hy]
 unfold fEq fLt
 cases isNaN x <;> cases isNaN y <;> simp
 rcases Int.lt_trichotomy (place x) (place y) with h | h | h
 ·rw [compare_lt h]
  refine ⟨?_, ?_, ?_⟩ <;> simp <;> omega
 ·rw [compare_eq h]
  refine ⟨?_, ?_, ?_⟩ <;> simp <;> omega
 ·rw [compare_gt h]
  refine ⟨?_, ?_, ?_⟩ <;> simp <;> omega

theorem f_eql (x y : Nat) (hx : x < 2 ^ 64) (hy : y < 2 ^ 64) : (FloatKind.f64.format.order x y == some .eq) = fEq x y := (order_cases x y hx hy).1
theorem f_neq (x y : Nat) (hx : x < 2 ^ 64) (hy : y < 2 ^ 64) : (FloatKind.f64.format.order x y != some .eq) = !fEq x y := by rw [bne, f_eql x y hx hy]
theorem f_lss (x y : Nat) (hx : x < 2 ^ 64) (hy : y < 2 ^ 64) : (FloatKind.f64.format.order x y == some .lt) = fLt x y := (order_cases x y hx hy).2.1
theorem f_gtr (x y : Nat) (hx : x < 2 ^ 64) (hy : y < 2 ^ 64) : (FloatKind.f64.format.order x y == some .gt) = fLt y x := (order_cases x y hx hy).2.2
theorem f_leq (x y : Nat) (hx : x < 2 ^ 64) (hy : y < 2 ^ 64) : (FloatKind.f64.format.order x y == some .lt || FloatKind.f64.format.order x y == some .eq) = fLe x y := by
 rw [f_eql x y hx hy, f_lss x y hx hy]
 unfold fEq fLt fLe
 cases isNaN x <;> cases isNaN y <;> simp
 rw [Bool.eq_iff_iff]; simp; omega
theorem f_geq (x y : Nat) (hx : x < 2 ^ 64) (hy : y < 2 ^ 64) : (FloatKind.f64.format.order x y == some .gt || FloatKind.f64.format.order x y == some .eq) = fLe y x := by
 rw [f_eql x y hx hy, f_gtr x y hx hy]
 unfold fEq fLt fLe
 cases isNaN x <;> cases isNaN y <;> simp
 rw [Bool.eq_iff_iff]; simp; omega
theorem fEq_self (x : Nat) : fEq x x = !isNaN x := by unfold fEq; cases isNaN x <;> simp

/-! the sign, by bits -/
theorem bits_andNot_sgn (b : Nat) (hb : b < 18446744073709551616) : bits .andNot .u64 (b : Int) 9223372036854775808 = ((b % 9223372036854775808 : Nat) : Int) := by
 have h := u64_andNot_nat b 9223372036854775808 hb (by omega)
 have e : (18446744073709551615 - 9223372036854775808 : Nat) = 2 ^ 63 - 1 := by omega
 rw [e, Nat.and_two_pow_sub_one_eq_mod] at h
 exact h
theorem nat_or_sgn (x : Nat) (h : x < 9223372036854775808) : 9223372036854775808 ||| x = 9223372036854775808 + x := by
 have := Nat.two_pow_add_eq_or_of_lt (i := 63) (b := x) (by omega) 1
 rw [Nat.mul_one] at this
 exact this.symm
theorem bits_or_sgn (x : Int) (h0 : 0 ≤ x) (h : x < 9223372036854775808) : bits .or .u64 9223372036854775808 x = 9223372036854775808 + x := by
 obtain ⟨n, rfl⟩ := Int.eq_ofNat_of_zero_le h0
 have e := u64_or_nat 9223372036854775808 n (by omega) (by omega)
 rw [nat_or_sgn n (by omega)] at e
 rw [show ((9223372036854775808 : Int)) = ((9223372036854775808 : Nat) : Int) from rfl, e]
 omega
theorem bits_or_sgn' (x : Int) (h0 : 0 ≤ x) (h : x < 9223372036854775808) : bits .or .u64 x 9223372036854775808 = 9223372036854775808 + x := by
 obtain ⟨n, rfl⟩ := Int.eq_ofNat_of_zero_le h0
 have e := u64_or_nat n 9223372036854775808 (by omega) (by omega)
 rw [Nat.or_comm, nat_or_sgn n (by omega)] at e
 rw [show ((9223372036854775808 : Int)) = ((9223372036854775808 : Nat) : Int) from rfl, e]
 omega

/-- THE KEY of a number -/
def fkey (b : Nat) : Int := if isNaN b then 18437736874454810625 else 9218868437227405312 + place b

theorem fkey_x {b : Nat} (h : isNaN b = true) : fkey b = 18437736874454810625 := by unfold fkey; rw [if_pos h]
theorem fkey_p {b : Nat} (h : isNaN b = false) (h1 : b < 9223372036854775808) : fkey b = 9218868437227405312 + b := by
 unfold fkey place SGN; rw [if_neg (by simp [h]), if_pos (by omega)]
theorem fkey_n {b : Nat} (h : isNaN b = false) (h1 : 9223372036854775808 ≤ b) : fkey b = 9218868437227405312 - ((b - 9223372036854775808 : Nat) : Int) := by
 unfold fkey place SGN; rw [if_neg (by simp [h]), if_neg (by omega)]; omega
theorem nan_b {b : Nat} (h : isNaN b = false) : b % 9223372036854775808 ≤ 9218868437227405312 := by
 unfold isNaN SGN INF at h; simp at h; exact h
theorem fkey_bounds {b : Nat} (hb : b < 18446744073709551616) : 0 ≤ fkey b ∧ fkey b ≤ 18437736874454810625 := by
 unfold fkey
 by_cases h : isNaN b = true
 ·rw [if_pos h]; omega
 ·rw [if_neg h]
  have h : isNaN b = false := by simpa using h
  unfold isNaN SGN INF at h
  unfold place SGN
  simp at h
  split <;> omega
theorem fkey_le {b : Nat} (hb : b < 18446744073709551616) (h : isNaN b = false) : fkey b ≤ 18437736874454810624 := by
 unfold fkey
 rw [if_neg (by simp [h])]
 unfold isNaN SGN INF at h
 unfold place SGN
 simp at h
 split <;> omega

/-- THE NUMBER OF A KEY: the program's, the document's -/
def atBits (k : Int) : Nat := if k = 18437736874454810625 then 9221120237041090561 else if 9218868437227405312 ≤ k then (k - 9218868437227405312).toNat else (9223372036854775808 + (9218868437227405312 - k)).toNat
def ratBits (k : Int) : Nat := if k = 18437736874454810625 then 9218868437227405313 else if 9218868437227405312 ≤ k then (k - 9218868437227405312).toNat else (9223372036854775808 + (9218868437227405312 - k)).toNat
theorem atBits_lt (k : Int) (h0 : 0 ≤ k) (h1 : k ≤ 18437736874454810625) : atBits k < 18446744073709551616 := by unfold atBits; split <;> (try split) <;> omega
theorem ratBits_lt (k : Int) (h0 : 0 ≤ k) (h1 : k ≤ 18437736874454810625) : ratBits k < 18446744073709551616 := by unfold ratBits; split <;> (try split) <;> omega
theorem atBits_nan (k : Int) (h0 : 0 ≤ k) (h1 : k ≤ 18437736874454810625) : isNaN (atBits k) = decide (k = 18437736874454810625) := by
 unfold atBits isNaN SGN INF
 rw [decide_eq_decide]
 split <;> (try split) <;> omega
theorem ratBits_nan (k : Int) (h0 : 0 ≤ k) (h1 : k ≤ 18437736874454810625) : isNaN (ratBits k) = decide (k = 18437736874454810625) := by
 unfold ratBits isNaN SGN INF
 rw [decide_eq_decide]
 split <;> (try split) <;> omega
theorem at_rat (k : Int) (h : k ≠ 18437736874454810625) : atBits k = ratBits k := by unfold atBits ratBits; rw [if_neg h, if_neg h]
theorem fkey_at (k : Int) (h0 : 0 ≤ k) (h1 : k ≤ 18437736874454810625) : fkey (atBits k) = k := by
 unfold fkey
 rw [atBits_nan k h0 h1]
 by_cases h : k = 18437736874454810625
 ·rw [if_pos (by simp [h]), h]
 ·rw [if_neg (by simp [h])]
  unfold place atBits SGN
  rw [if_neg h]
  split <;> split <;> omega

/-- 'is': the number, bit for bit (of a NaN: a NaN) -/
def fIs (v b : Nat) : Bool := if isNaN b then isNaN v else decide (v = b)
theorem fIs_at (k : Int) (h0 : 0 ≤ k) (h1 : k ≤ 18437736874454810625) : fIs (atBits k) (ratBits k) = true := by
 unfold fIs
 rw [ratBits_nan k h0 h1, atBits_nan k h0 h1]
 by_cases h : k = 18437736874454810625
 ·simp [h]
 ·rw [if_neg (by simp [h]), at_rat k h]; simp
theorem fIs_self (b : Nat) : fIs b b = true := by unfold fIs; cases isNaN b <;> simp

def icmp (x y : Int) : Int := if x < y then -1 else if y < x then 1 else 0

end Go.Proofs.Ytfmjgjfbnilpoaa
