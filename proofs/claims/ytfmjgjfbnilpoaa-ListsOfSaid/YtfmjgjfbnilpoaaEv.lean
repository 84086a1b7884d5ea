/-
 Plain helpers for printed functions: answers that come with enough rounds; binary64 comparisons by keys.
-/
import Derived.Test.YtfmjgjfbnilpoaaFw
import Derived.Test.YtfmjgjfbnilpoaaFk
import Derived.Laws.FloatBits
namespace Go.Proofs.Ytfmjgjfbnilpoaa
set_option linter.unusedVariables false
open Go.RowKit YtfmjgjfbnilpoaaW.PrintWords YtfmjgjfbnilpoaaW.PrintLast YtfmjgjfbnilpoaaW.PrintMore

section
variable {α β : Type} {r : α}
theorem Ev.pos {c : Prop} [Decidable c] {g f : Nat → Option α} (h : c) (H : Ev g r) : Ev (fun k => if c then g k else f k) r := H.congr fun k => if_pos h
theorem Ev.neg {c : Prop} [Decidable c] {g f : Nat → Option α} (h : ¬ c) (H : Ev f r) : Ev (fun k => if c then g k else f k) r := H.congr fun k => if_neg h
theorem Ev.bindc {a : Option β} {v : β} {f : Nat → β → Option α} (h : a = some v) (H : Ev (fun k => f k v) r) : Ev (fun k => a.bind (f k)) r := H.congr fun k => by rw [h]; rfl
theorem Ev.some_ {v : α} (h : v = r) : Ev (fun _ => some v) r := by rw [← h]; exact Ev.now _
theorem Ev.eq {g : Nat → Option α} {v : α} (H : Ev g v) (h : v = r) : Ev g r := h ▸ H
end

theorem w64 {x : Int} (h0 : -9223372036854775808 ≤ x) (h1 : x ≤ 9223372036854775807) : wrap64 x = x := by unfold wrap64; omega
theorem wu64 {x : Int} (h0 : 0 ≤ x) (h1 : x ≤ 18446744073709551615) : IntKind.u64.wrap x = x := by rw [IntKind.wrap_u64]; omega

/-! comparisons -/
theorem feq_k {a b : Nat} (ha : a < 2 ^ 64) (hb : b < 2 ^ 64) : feq a b = (!isNaN a && !isNaN b && decide (fkey a = fkey b)) := by
 unfold feq; rw [f_eql a b ha hb]; unfold fEq fkey
 cases h1 : isNaN a <;> cases h2 : isNaN b <;> simp
theorem flt_k {a b : Nat} (ha : a < 2 ^ 64) (hb : b < 2 ^ 64) : flt a b = (!isNaN a && !isNaN b && decide (fkey a < fkey b)) := by
 unfold flt; rw [f_lss a b ha hb]; unfold fLt fkey
 cases h1 : isNaN a <;> cases h2 : isNaN b <;> simp
theorem fle_k {a b : Nat} (ha : a < 2 ^ 64) (hb : b < 2 ^ 64) : fle a b = (!isNaN a && !isNaN b && decide (fkey a ≤ fkey b)) := by
 unfold fle; rw [f_leq a b ha hb]; unfold fLe fkey
 cases h1 : isNaN a <;> cases h2 : isNaN b <;> simp
theorem fgt_k {a b : Nat} (ha : a < 2 ^ 64) (hb : b < 2 ^ 64) : fgt a b = flt b a := by
 unfold fgt flt; rw [f_gtr a b ha hb, f_lss b a hb ha]
theorem fge_k {a b : Nat} (ha : a < 2 ^ 64) (hb : b < 2 ^ 64) : fge a b = fle b a := by
 unfold fge fle; rw [f_geq a b ha hb, f_leq b a hb ha]
theorem feq_self {a : Nat} (ha : a < 2 ^ 64) : feq a a = !isNaN a := by rw [feq_k ha ha]; simp

/-- the key of a number that is none other than nought -/
theorem fkey_inj {a b : Nat} (ha : a < 18446744073709551616) (hb : b < 18446744073709551616) (na : isNaN a = false) (nb : isNaN b = false) (h : fkey a = fkey b) (hz : fkey a ≠ 9218868437227405312) : a = b := by
 have p1 : fkey a = 9218868437227405312 + place a := by unfold fkey; rw [if_neg (by simp [na])]
 have p2 : fkey b = 9218868437227405312 + place b := by unfold fkey; rw [if_neg (by simp [nb])]
 rw [p1, p2] at h
 rw [p1] at hz
 unfold place SGN at h hz
 split at h <;> split at h <;> simp_all <;> omega
theorem fkey_zero_iff {a : Nat} (ha : a < 18446744073709551616) (na : isNaN a = false) : fkey a = 9218868437227405312 ↔ a = 0 ∨ a = 9223372036854775808 := by
 have p1 : fkey a = 9218868437227405312 + place a := by unfold fkey; rw [if_neg (by simp [na])]
 rw [p1]
 unfold place SGN
 split <;> omega

/-! the numbers of small whole numbers -/
theorem f64int_lt (n : Int) : f64int n < 2 ^ 64 := by unfold f64int FloatKind.nearest FloatKind.encode; exact Ieee.double.write_lt _
end Go.Proofs.Ytfmjgjfbnilpoaa
