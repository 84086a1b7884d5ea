/-
  order.Between, without the document's.
-/
import Derived.Test.YtdhiljimmijghaaDoorOk
namespace Go.Proofs.YtdhiljimmijghaaDoor
open Go.RowKit
set_option linter.unusedVariables false
theorem ret_ue2 {a b : Int} {c d : Int} (h : a = b) (h2 : c = d) : Ending.returned (.tuple #[.int .u64 a, .int .i64 c]) = .returned (.tuple #[.int .u64 b, .int .i64 d]) := by rw [h, h2]
def betE (a b : Nat) : Int := if isNaN a || isNaN b then 60 else 0
def betN (a b : Nat) : Int := if isNaN a || isNaN b then 0 else if fkey b < fkey a then 0 else fkey b - fkey a + 1
theorem bet_nan {a b : Nat} (h : (isNaN a || isNaN b) = true) : betN a b = 0 ∧ betE a b = 60 := by
  unfold betN betE; rw [if_pos h, if_pos h]; exact ⟨rfl, rfl⟩
theorem bet_gt {a b : Nat} (h : (isNaN a || isNaN b) = false) (h1 : fkey b < fkey a) : betN a b = 0 ∧ betE a b = 0 := by
  unfold betN betE; rw [h]; simp [h1]
theorem bet_le {a b : Nat} (h : (isNaN a || isNaN b) = false) (h1 : fkey a ≤ fkey b) : betN a b = fkey b - fkey a + 1 ∧ betE a b = 0 := by
  unfold betN betE; rw [h]; simp [Int.not_lt.2 h1]
set_option maxRecDepth 100000 in
theorem bet_any (a b : Nat) (ha : a < 2 ^ 64) (hb : b < 2 ^ 64) (w : World) :
    Calls Tryd.prog 11 #[.float .f64 a, .float .f64 b] w fun e w' => e = .returned (.tuple #[.int .u64 (betN a b), .int .i64 (betE a b)]) ∧ w = w' := by
  have ka := fkey_bounds ha
  have kb := fkey_bounds hb
  have h1 := f_neq a a ha ha
  have h2 := f_neq b b hb hb
  rw [fEq_self, Bool.not_not] at h1 h2
  by_cases na : isNaN a = true
  · have hf := Lib.hid (bet_nan (show (isNaN a || isNaN b) = true by rw [na]; rfl))
    rw [na] at h1
    go_enter Tryd.func11, Tryd.ntmps11
    go_wp2_with fail
    go_ret2
    exact ⟨ret_ue2 hf.out.1.symm hf.out.2.symm, rfl⟩
  · have na : isNaN a = false := by simpa using na
    by_cases nb : isNaN b = true
    · have hf := Lib.hid (bet_nan (show (isNaN a || isNaN b) = true by rw [na, nb]; rfl))
      rw [na] at h1
      rw [nb] at h2
      go_enter Tryd.func11, Tryd.ntmps11
      go_wp2_with fail
      go_ret2
      exact ⟨ret_ue2 hf.out.1.symm hf.out.2.symm, rfl⟩
    · have nb : isNaN b = false := by simpa using nb
      rw [na] at h1
      rw [nb] at h2
      have hn : (isNaN a || isNaN b) = false := by rw [na, nb]; rfl
      by_cases hk : fkey b < fkey a
      · have hf := Lib.hid (bet_gt hn hk)
        clear hn
        go_enter Tryd.func11, Tryd.ntmps11
        go_wp2_with fail
        refine (key_any a ha _).mono ?_
        rintro e w' ⟨rfl, rfl⟩
        go_wp2_with fail
        refine (key_any b hb _).mono ?_
        rintro e w' ⟨rfl, rfl⟩
        go_wp2_with fail
        go_ret2
        exact ⟨ret_ue2 hf.out.1.symm hf.out.2.symm, rfl⟩
      · have hk : fkey a ≤ fkey b := by omega
        have hf := Lib.hid (bet_le hn hk)
        clear hn
        go_enter Tryd.func11, Tryd.ntmps11
        go_wp2_with fail
        refine (key_any a ha _).mono ?_
        rintro e w' ⟨rfl, rfl⟩
        go_wp2_with fail
        refine (key_any b hb _).mono ?_
        rintro e w' ⟨rfl, rfl⟩
        go_wp2_with fail
        go_ret2
        exact ⟨ret_ue2 hf.out.1.symm hf.out.2.symm, rfl⟩
end Go.Proofs.YtdhiljimmijghaaDoor
