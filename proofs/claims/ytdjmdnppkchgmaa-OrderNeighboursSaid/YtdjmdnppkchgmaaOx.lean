/-
  Walks of order's neighbours: Next, Prev, Middle, Between, and the document's.
-/
import Derived.Test.YtdjmdnppkchgmaaOw
import Derived.OpenShut
namespace Go.Proofs.Ytdjmdnppkchgmaa
open Go.RowKit
set_option linter.unusedVariables false

/-! ### step -/
set_option maxRecDepth 100000 in
theorem step_nan (b : Nat) (hb : b < 2 ^ 64) (hn : isNaN b = true) (by_ end_ : Int) (w : World) :
    Calls Try.prog 63 #[.float .f64 b, .int .u64 by_, .int .u64 end_] w fun e w' => e = .returned (.tuple #[.float .f64 0, .int .i64 60]) ∧ w = w' := by
  have h1 := f_neq b b hb hb
  rw [fEq_self, hn] at h1
  go_enter Try.func63, Try.ntmps63
  go_wp2
  go_ret2
  exact ⟨rfl, rfl⟩
set_option maxRecDepth 100000 in
theorem step_end (b : Nat) (hb : b < 2 ^ 64) (hn : isNaN b = false) (by_ end_ : Int) (he : fkey b = end_) (w : World) :
    Calls Try.prog 63 #[.float .f64 b, .int .u64 by_, .int .u64 end_] w fun e w' => e = .returned (.tuple #[.float .f64 0, .int .i64 61]) ∧ w = w' := by
  have h1 := f_neq b b hb hb
  rw [fEq_self, hn] at h1
  have ht : (fkey b == end_) = true := by rw [beq_iff_eq]; exact he
  clear he hn
  go_enter Try.func63, Try.ntmps63
  go_wp2_with fail
  refine (key_any b hb _).mono ?_
  rintro e w' ⟨rfl, rfl⟩
  go_wp2_with fail
  go_ret2
  exact ⟨rfl, rfl⟩
set_option maxRecDepth 100000 in
theorem step_go (b : Nat) (hb : b < 2 ^ 64) (hn : isNaN b = false) (by_ end_ : Int) (he : fkey b ≠ end_) (k : Int) (hk : IntKind.u64.wrap (fkey b + by_) = k) (h0 : 0 ≤ k) (h1 : k ≤ 18437736874454810625) (w : World) :
    Calls Try.prog 63 #[.float .f64 b, .int .u64 by_, .int .u64 end_] w fun e w' => e = .returned (.tuple #[.float .f64 (atBits k), .int .i64 0]) ∧ w = w' := by
  have h2 := f_neq b b hb hb
  rw [fEq_self, hn] at h2
  have ht : (fkey b == end_) = false := by rw [beq_eq_false_iff_ne]; exact he
  have Hk := Lib.hid hk
  clear he hn hk
  go_enter Try.func63, Try.ntmps63
  go_wp2_with fail
  refine (key_any b hb _).mono ?_
  rintro e w' ⟨rfl, rfl⟩
  go_wp2_with fail
  refine (key_any b hb _).mono ?_
  rintro e w' ⟨rfl, rfl⟩
  go_wp2_with fail
  rw [Hk.out]
  refine (at_in k h0 h1 _).mono ?_
  rintro e w' ⟨rfl, rfl⟩
  go_wp2_with fail
  go_ret2
  exact ⟨rfl, rfl⟩

/-! ### Next, Prev: what they answer -/
def nextB (b : Nat) : Nat := if isNaN b then 0 else if fkey b = 18437736874454810624 then 0 else atBits (fkey b + 1)
def prevB (b : Nat) : Nat := if isNaN b then 0 else if fkey b = 0 then 0 else atBits (fkey b - 1)
def nextE (b : Nat) : Int := if isNaN b then 60 else if fkey b = 18437736874454810624 then 61 else 0
def prevE (b : Nat) : Int := if isNaN b then 60 else if fkey b = 0 then 61 else 0
theorem ret_fe2 {a b : Nat} {c d : Int} (h : a = b) (h2 : c = d) : Ending.returned (.tuple #[.float .f64 a, .int .i64 c]) = .returned (.tuple #[.float .f64 b, .int .i64 d]) := by rw [h, h2]
theorem ret_ue2 {a b : Int} {c d : Int} (h : a = b) (h2 : c = d) : Ending.returned (.tuple #[.int .u64 a, .int .i64 c]) = .returned (.tuple #[.int .u64 b, .int .i64 d]) := by rw [h, h2]
theorem same_mono {P : Program} {f : FuncId} {args : Array Value} {w : World} {x y : Ending} (h : Calls P f args w fun e w' => e = x ∧ w = w') (hxy : x = y) : Calls P f args w fun e w' => e = y ∧ w = w' := by rw [← hxy]; exact h
set_option maxRecDepth 100000 in
theorem next_any (b : Nat) (hb : b < 2 ^ 64) (w : World) :
    Calls Try.prog 33 #[.float .f64 b] w fun e w' => e = .returned (.tuple #[.float .f64 (nextB b), .int .i64 (nextE b)]) ∧ w = w' := by
  have hs : ∀ w, Calls Try.prog 63 #[.float .f64 b, .int .u64 1, .int .u64 18437736874454810624] w fun e w' => e = .returned (.tuple #[.float .f64 (nextB b), .int .i64 (nextE b)]) ∧ w = w' := by
    intro w
    by_cases hn : isNaN b = true
    · exact same_mono (step_nan b hb hn _ _ w) (ret_fe2 (by unfold nextB; rw [if_pos hn]) (by unfold nextE; rw [if_pos hn]))
    · have hn' : isNaN b = false := by simpa using hn
      have hb1 := fkey_bounds hb
      have hb2 := fkey_le hb hn'
      by_cases he : fkey b = 18437736874454810624
      · exact same_mono (step_end b hb hn' _ _ he w) (ret_fe2 (by unfold nextB; rw [if_neg hn, if_pos he]) (by unfold nextE; rw [if_neg hn, if_pos he]))
      · exact same_mono (step_go b hb hn' _ _ he (fkey b + 1) (by rw [IntKind.wrap_u64]; omega) (by omega) (by omega) w) (ret_fe2 (by unfold nextB; rw [if_neg hn, if_neg he]) (by unfold nextE; rw [if_neg hn, if_neg he]))
  have Hs := Lib.hid hs
  clear hs
  go_enter Try.func33, Try.ntmps33
  go_wp2_with fail
  refine (Hs.out _).mono ?_
  rintro e w' ⟨rfl, rfl⟩
  go_wp2_with fail
  go_ret2
  exact ⟨rfl, rfl⟩
set_option maxRecDepth 100000 in
theorem prev_any (b : Nat) (hb : b < 2 ^ 64) (w : World) :
    Calls Try.prog 35 #[.float .f64 b] w fun e w' => e = .returned (.tuple #[.float .f64 (prevB b), .int .i64 (prevE b)]) ∧ w = w' := by
  have hs : ∀ w, Calls Try.prog 63 #[.float .f64 b, .int .u64 18446744073709551615, .int .u64 0] w fun e w' => e = .returned (.tuple #[.float .f64 (prevB b), .int .i64 (prevE b)]) ∧ w = w' := by
    intro w
    by_cases hn : isNaN b = true
    · exact same_mono (step_nan b hb hn _ _ w) (ret_fe2 (by unfold prevB; rw [if_pos hn]) (by unfold prevE; rw [if_pos hn]))
    · have hn' : isNaN b = false := by simpa using hn
      have hb1 := fkey_bounds hb
      have hb2 := fkey_le hb hn'
      by_cases he : fkey b = 0
      · exact same_mono (step_end b hb hn' _ _ he w) (ret_fe2 (by unfold prevB; rw [if_neg hn, if_pos he]) (by unfold prevE; rw [if_neg hn, if_pos he]))
      · exact same_mono (step_go b hb hn' _ _ he (fkey b - 1) (by rw [IntKind.wrap_u64]; omega) (by omega) (by omega) w) (ret_fe2 (by unfold prevB; rw [if_neg hn, if_neg he]) (by unfold prevE; rw [if_neg hn, if_neg he]))
  have Hs := Lib.hid hs
  clear hs
  go_enter Try.func35, Try.ntmps35
  go_wp2_with fail
  refine (Hs.out _).mono ?_
  rintro e w' ⟨rfl, rfl⟩
  go_wp2_with fail
  go_ret2
  exact ⟨rfl, rfl⟩

/-! ### the document's -/
def rnextB (b : Nat) : Nat := if isNaN b then 0 else if fkey b = 18437736874454810624 then 0 else ratBits (fkey b + 1)
def rprevB (b : Nat) : Nat := if isNaN b then 0 else if fkey b = 0 then 0 else ratBits (fkey b - 1)
set_option maxRecDepth 100000 in
theorem rnext_any (b : Nat) (hb : b < 2 ^ 64) (w : World) :
    Calls Try.prog 34 #[.int .u64 b, .int .i64 1] w fun e w' => e = .returned (.tuple #[.int .u64 (rnextB b), .int .i64 (nextE b)]) ∧ w = w' := by
  have hb1 := fkey_bounds hb
  by_cases hn : isNaN b = true
  · have hf := Lib.hid (show rnextB b = 0 ∧ nextE b = 60 by unfold rnextB nextE; rw [if_pos hn, if_pos hn]; exact ⟨rfl, rfl⟩)
    go_enter Try.func34, Try.ntmps34
    go_wp2_with fail
    refine (rkey_any b hb _).mono ?_
    rintro e w' ⟨rfl, rfl⟩
    go_wp2_with fail
    refine (rnan_any b hb _).mono ?_
    rintro e w' ⟨rfl, rfl⟩
    go_wp2_with fail
    go_ret2
    exact ⟨ret_ue2 (by rw [hf.out.1]; rfl) hf.out.2.symm, rfl⟩
  · have hn' : isNaN b = false := by simpa using hn
    have hb2 := fkey_le hb hn'
    by_cases he : fkey b = 18437736874454810624
    · have hf := Lib.hid (show rnextB b = 0 ∧ nextE b = 61 by unfold rnextB nextE; rw [if_neg hn, if_neg hn, if_pos he, if_pos he]; exact ⟨rfl, rfl⟩)
      have ht : (fkey b == 18437736874454810624) = true := by rw [beq_iff_eq]; exact he
      clear he hn
      go_enter Try.func34, Try.ntmps34
      go_wp2_with fail
      refine (rkey_any b hb _).mono ?_
      rintro e w' ⟨rfl, rfl⟩
      go_wp2_with fail
      refine (rnan_any b hb _).mono ?_
      rintro e w' ⟨rfl, rfl⟩
      go_wp2_with fail
      go_ret2
      exact ⟨ret_ue2 (by rw [hf.out.1]; rfl) hf.out.2.symm, rfl⟩
    · have hf := Lib.hid (show rnextB b = ratBits (fkey b + 1) ∧ nextE b = 0 by unfold rnextB nextE; rw [if_neg hn, if_neg hn, if_neg he, if_neg he]; exact ⟨rfl, rfl⟩)
      have ht : (fkey b == 18437736874454810624) = false := by rw [beq_eq_false_iff_ne]; exact he
      have hlt : fkey b < 18437736874454810624 := by omega
      clear he hn
      go_enter Try.func34, Try.ntmps34
      go_wp2_with fail
      refine (rkey_any b hb _).mono ?_
      rintro e w' ⟨rfl, rfl⟩
      go_wp2_with fail
      refine (rnan_any b hb _).mono ?_
      rintro e w' ⟨rfl, rfl⟩
      go_wp2_with fail
      refine (rat_in (fkey b + 1) (by omega) (by omega) _).mono ?_
      rintro e w' ⟨rfl, rfl⟩
      go_wp2_with fail
      go_ret2
      exact ⟨ret_ue2 (by rw [hf.out.1]) hf.out.2.symm, rfl⟩
set_option maxRecDepth 100000 in
theorem rprev_any (b : Nat) (hb : b < 2 ^ 64) (w : World) :
    Calls Try.prog 34 #[.int .u64 b, .int .i64 (-1)] w fun e w' => e = .returned (.tuple #[.int .u64 (rprevB b), .int .i64 (prevE b)]) ∧ w = w' := by
  have hb1 := fkey_bounds hb
  by_cases hn : isNaN b = true
  · have hf := Lib.hid (show rprevB b = 0 ∧ prevE b = 60 by unfold rprevB prevE; rw [if_pos hn, if_pos hn]; exact ⟨rfl, rfl⟩)
    go_enter Try.func34, Try.ntmps34
    go_wp2_with fail
    refine (rkey_any b hb _).mono ?_
    rintro e w' ⟨rfl, rfl⟩
    go_wp2_with fail
    refine (rnan_any b hb _).mono ?_
    rintro e w' ⟨rfl, rfl⟩
    go_wp2_with fail
    go_ret2
    exact ⟨ret_ue2 (by rw [hf.out.1]; rfl) hf.out.2.symm, rfl⟩
  · have hn' : isNaN b = false := by simpa using hn
    have hb2 := fkey_le hb hn'
    by_cases he : fkey b = 0
    · have hf := Lib.hid (show rprevB b = 0 ∧ prevE b = 61 by unfold rprevB prevE; rw [if_neg hn, if_neg hn, if_pos he, if_pos he]; exact ⟨rfl, rfl⟩)
      have ht : (fkey b == 0) = true := by rw [beq_iff_eq]; exact he
      clear he hn
      go_enter Try.func34, Try.ntmps34
      go_wp2_with fail
      refine (rkey_any b hb _).mono ?_
      rintro e w' ⟨rfl, rfl⟩
      go_wp2_with fail
      refine (rnan_any b hb _).mono ?_
      rintro e w' ⟨rfl, rfl⟩
      go_wp2_with fail
      go_ret2
      exact ⟨ret_ue2 (by rw [hf.out.1]; rfl) hf.out.2.symm, rfl⟩
    · have hf := Lib.hid (show rprevB b = ratBits (fkey b - 1) ∧ prevE b = 0 by unfold rprevB prevE; rw [if_neg hn, if_neg hn, if_neg he, if_neg he]; exact ⟨rfl, rfl⟩)
      have ht : (fkey b == 0) = false := by rw [beq_eq_false_iff_ne]; exact he
      have hlt : 0 < fkey b := by omega
      have hw := Lib.hid (show IntKind.u64.wrap (fkey b + IntKind.u64.wrap (-1)) = fkey b - 1 by rw [IntKind.wrap_u64, IntKind.wrap_u64]; omega)
      clear he hn
      go_enter Try.func34, Try.ntmps34
      go_wp2_with fail
      refine (rkey_any b hb _).mono ?_
      rintro e w' ⟨rfl, rfl⟩
      go_wp2_with fail
      refine (rnan_any b hb _).mono ?_
      rintro e w' ⟨rfl, rfl⟩
      go_wp2_with fail
      rw [hw.out]
      refine (rat_in (fkey b - 1) (by omega) (by omega) _).mono ?_
      rintro e w' ⟨rfl, rfl⟩
      go_wp2_with fail
      go_ret2
      exact ⟨ret_ue2 (by rw [hf.out.1]) hf.out.2.symm, rfl⟩

/-! ### Middle, Between -/
def midE (a b : Nat) : Int := if isNaN a || isNaN b then 60 else if fkey b < fkey a then 2 else 0
def midK (a b : Nat) : Int := fkey a + (fkey b - fkey a) / 2
def midB (a b : Nat) : Nat := if isNaN a || isNaN b then 0 else if fkey b < fkey a then 0 else atBits (midK a b)
def rmidB (a b : Nat) : Nat := if isNaN a || isNaN b then 0 else if fkey b < fkey a then 0 else ratBits (midK a b)
def betE (a b : Nat) : Int := if isNaN a || isNaN b then 60 else 0
def betN (a b : Nat) : Int := if isNaN a || isNaN b then 0 else if fkey b < fkey a then 0 else fkey b - fkey a + 1
theorem mid_nan {a b : Nat} (h : (isNaN a || isNaN b) = true) : midB a b = 0 ∧ rmidB a b = 0 ∧ midE a b = 60 ∧ betN a b = 0 ∧ betE a b = 60 := by
  unfold midB rmidB midE betN betE; rw [if_pos h, if_pos h, if_pos h, if_pos h, if_pos h]; exact ⟨rfl, rfl, rfl, rfl, rfl⟩
theorem mid_gt {a b : Nat} (h : (isNaN a || isNaN b) = false) (h1 : fkey b < fkey a) : midB a b = 0 ∧ rmidB a b = 0 ∧ midE a b = 2 ∧ betN a b = 0 ∧ betE a b = 0 := by
  unfold midB rmidB midE betN betE; rw [h]; simp [h1]
theorem mid_le {a b : Nat} (h : (isNaN a || isNaN b) = false) (h1 : fkey a ≤ fkey b) : midB a b = atBits (midK a b) ∧ rmidB a b = ratBits (midK a b) ∧ midE a b = 0 ∧ betN a b = fkey b - fkey a + 1 ∧ betE a b = 0 := by
  unfold midB rmidB midE betN betE; rw [h]; simp [Int.not_lt.2 h1]

set_option maxRecDepth 100000 in
theorem mid_any (a b : Nat) (ha : a < 2 ^ 64) (hb : b < 2 ^ 64) (w : World) :
    Calls Try.prog 36 #[.float .f64 a, .float .f64 b] w fun e w' => e = .returned (.tuple #[.float .f64 (midB a b), .int .i64 (midE a b)]) ∧ w = w' := by
  have ka := fkey_bounds ha
  have kb := fkey_bounds hb
  have h1 := f_neq a a ha ha
  have h2 := f_neq b b hb hb
  rw [fEq_self, Bool.not_not] at h1 h2
  by_cases na : isNaN a = true
  · have hf := Lib.hid (mid_nan (show (isNaN a || isNaN b) = true by rw [na]; rfl))
    rw [na] at h1
    go_enter Try.func36, Try.ntmps36
    go_wp2_with fail
    go_ret2
    exact ⟨ret_fe2 hf.out.1.symm hf.out.2.2.1.symm, rfl⟩
  · have na : isNaN a = false := by simpa using na
    by_cases nb : isNaN b = true
    · have hf := Lib.hid (mid_nan (show (isNaN a || isNaN b) = true by rw [na, nb]; rfl))
      rw [na] at h1
      rw [nb] at h2
      go_enter Try.func36, Try.ntmps36
      go_wp2_with fail
      go_ret2
      exact ⟨ret_fe2 hf.out.1.symm hf.out.2.2.1.symm, rfl⟩
    · have nb : isNaN b = false := by simpa using nb
      rw [na] at h1
      rw [nb] at h2
      have hn : (isNaN a || isNaN b) = false := by rw [na, nb]; rfl
      by_cases hk : fkey b < fkey a
      · have hf := Lib.hid (mid_gt hn hk)
        clear hn
        go_enter Try.func36, Try.ntmps36
        go_wp2_with fail
        refine (key_any a ha _).mono ?_
        rintro e w' ⟨rfl, rfl⟩
        go_wp2_with fail
        refine (key_any b hb _).mono ?_
        rintro e w' ⟨rfl, rfl⟩
        go_wp2_with fail
        go_ret2
        exact ⟨ret_fe2 hf.out.1.symm hf.out.2.2.1.symm, rfl⟩
      · have hk : fkey a ≤ fkey b := by omega
        have hf := Lib.hid (mid_le hn hk)
        clear hn
        have hm : 0 ≤ fkey a + (fkey b - fkey a) / 2 ∧ fkey a + (fkey b - fkey a) / 2 ≤ 18437736874454810625 := by omega
        go_enter Try.func36, Try.ntmps36
        go_wp2_with fail
        refine (key_any a ha _).mono ?_
        rintro e w' ⟨rfl, rfl⟩
        go_wp2_with fail
        refine (key_any b hb _).mono ?_
        rintro e w' ⟨rfl, rfl⟩
        go_wp2_with fail
        refine (at_in _ hm.1 hm.2 _).mono ?_
        rintro e w' ⟨rfl, rfl⟩
        go_wp2_with fail
        go_ret2
        exact ⟨ret_fe2 (by rw [hf.out.1]; rfl) hf.out.2.2.1.symm, rfl⟩
set_option maxRecDepth 100000 in
theorem rmid_any (a b : Nat) (ha : a < 2 ^ 64) (hb : b < 2 ^ 64) (w : World) :
    Calls Try.prog 37 #[.int .u64 a, .int .u64 b] w fun e w' => e = .returned (.tuple #[.int .u64 (rmidB a b), .int .i64 (midE a b)]) ∧ w = w' := by
  have ka := fkey_bounds ha
  have kb := fkey_bounds hb
  by_cases na : isNaN a = true
  · have hf := Lib.hid (mid_nan (show (isNaN a || isNaN b) = true by rw [na]; rfl))
    go_enter Try.func37, Try.ntmps37
    go_wp2_with fail
    refine (rnan_any a ha _).mono ?_
    rintro e w' ⟨rfl, rfl⟩
    go_wp2_with fail
    go_ret2
    exact ⟨ret_ue2 (by rw [hf.out.2.1]; rfl) hf.out.2.2.1.symm, rfl⟩
  · have na : isNaN a = false := by simpa using na
    by_cases nb : isNaN b = true
    · have hf := Lib.hid (mid_nan (show (isNaN a || isNaN b) = true by rw [na, nb]; rfl))
      go_enter Try.func37, Try.ntmps37
      go_wp2_with fail
      refine (rnan_any a ha _).mono ?_
      rintro e w' ⟨rfl, rfl⟩
      go_wp2_with fail
      refine (rnan_any b hb _).mono ?_
      rintro e w' ⟨rfl, rfl⟩
      go_wp2_with fail
      go_ret2
      exact ⟨ret_ue2 (by rw [hf.out.2.1]; rfl) hf.out.2.2.1.symm, rfl⟩
    · have nb : isNaN b = false := by simpa using nb
      have hn : (isNaN a || isNaN b) = false := by rw [na, nb]; rfl
      by_cases hk : fkey b < fkey a
      · have hf := Lib.hid (mid_gt hn hk)
        clear hn
        go_enter Try.func37, Try.ntmps37
        go_wp2_with fail
        refine (rnan_any a ha _).mono ?_
        rintro e w' ⟨rfl, rfl⟩
        go_wp2_with fail
        refine (rnan_any b hb _).mono ?_
        rintro e w' ⟨rfl, rfl⟩
        go_wp2_with fail
        refine (rkey_any a ha _).mono ?_
        rintro e w' ⟨rfl, rfl⟩
        go_wp2_with fail
        refine (rkey_any b hb _).mono ?_
        rintro e w' ⟨rfl, rfl⟩
        go_wp2_with fail
        go_ret2
        exact ⟨ret_ue2 (by rw [hf.out.2.1]; rfl) hf.out.2.2.1.symm, rfl⟩
      · have hk : fkey a ≤ fkey b := by omega
        have hf := Lib.hid (mid_le hn hk)
        clear hn
        have hm : 0 ≤ fkey a + (fkey b - fkey a) / 2 ∧ fkey a + (fkey b - fkey a) / 2 ≤ 18437736874454810625 := by omega
        go_enter Try.func37, Try.ntmps37
        go_wp2_with fail
        refine (rnan_any a ha _).mono ?_
        rintro e w' ⟨rfl, rfl⟩
        go_wp2_with fail
        refine (rnan_any b hb _).mono ?_
        rintro e w' ⟨rfl, rfl⟩
        go_wp2_with fail
        refine (rkey_any a ha _).mono ?_
        rintro e w' ⟨rfl, rfl⟩
        go_wp2_with fail
        refine (rkey_any b hb _).mono ?_
        rintro e w' ⟨rfl, rfl⟩
        go_wp2_with fail
        refine (rat_in _ hm.1 hm.2 _).mono ?_
        rintro e w' ⟨rfl, rfl⟩
        go_wp2_with fail
        go_ret2
        exact ⟨ret_ue2 (by rw [hf.out.2.1]; rfl) hf.out.2.2.1.symm, rfl⟩
set_option maxRecDepth 100000 in
theorem bet_any (a b : Nat) (ha : a < 2 ^ 64) (hb : b < 2 ^ 64) (w : World) :
    Calls Try.prog 38 #[.float .f64 a, .float .f64 b] w fun e w' => e = .returned (.tuple #[.int .u64 (betN a b), .int .i64 (betE a b)]) ∧ w = w' := by
  have ka := fkey_bounds ha
  have kb := fkey_bounds hb
  have h1 := f_neq a a ha ha
  have h2 := f_neq b b hb hb
  rw [fEq_self, Bool.not_not] at h1 h2
  by_cases na : isNaN a = true
  · have hf := Lib.hid (mid_nan (show (isNaN a || isNaN b) = true by rw [na]; rfl))
    rw [na] at h1
    go_enter Try.func38, Try.ntmps38
    go_wp2_with fail
    go_ret2
    exact ⟨ret_ue2 hf.out.2.2.2.1.symm hf.out.2.2.2.2.symm, rfl⟩
  · have na : isNaN a = false := by simpa using na
    by_cases nb : isNaN b = true
    · have hf := Lib.hid (mid_nan (show (isNaN a || isNaN b) = true by rw [na, nb]; rfl))
      rw [na] at h1
      rw [nb] at h2
      go_enter Try.func38, Try.ntmps38
      go_wp2_with fail
      go_ret2
      exact ⟨ret_ue2 hf.out.2.2.2.1.symm hf.out.2.2.2.2.symm, rfl⟩
    · have nb : isNaN b = false := by simpa using nb
      rw [na] at h1
      rw [nb] at h2
      have hn : (isNaN a || isNaN b) = false := by rw [na, nb]; rfl
      by_cases hk : fkey b < fkey a
      · have hf := Lib.hid (mid_gt hn hk)
        clear hn
        go_enter Try.func38, Try.ntmps38
        go_wp2_with fail
        refine (key_any a ha _).mono ?_
        rintro e w' ⟨rfl, rfl⟩
        go_wp2_with fail
        refine (key_any b hb _).mono ?_
        rintro e w' ⟨rfl, rfl⟩
        go_wp2_with fail
        go_ret2
        exact ⟨ret_ue2 hf.out.2.2.2.1.symm hf.out.2.2.2.2.symm, rfl⟩
      · have hk : fkey a ≤ fkey b := by omega
        have hf := Lib.hid (mid_le hn hk)
        clear hn
        go_enter Try.func38, Try.ntmps38
        go_wp2_with fail
        refine (key_any a ha _).mono ?_
        rintro e w' ⟨rfl, rfl⟩
        go_wp2_with fail
        refine (key_any b hb _).mono ?_
        rintro e w' ⟨rfl, rfl⟩
        go_wp2_with fail
        go_ret2
        exact ⟨ret_ue2 hf.out.2.2.2.1.symm hf.out.2.2.2.2.symm, rfl⟩
set_option maxRecDepth 100000 in
theorem rbet_any (a b : Nat) (ha : a < 2 ^ 64) (hb : b < 2 ^ 64) (w : World) :
    Calls Try.prog 39 #[.int .u64 a, .int .u64 b] w fun e w' => e = .returned (.tuple #[.int .u64 (betN a b), .int .i64 (betE a b)]) ∧ w = w' := by
  have ka := fkey_bounds ha
  have kb := fkey_bounds hb
  by_cases na : isNaN a = true
  · have hf := Lib.hid (mid_nan (show (isNaN a || isNaN b) = true by rw [na]; rfl))
    go_enter Try.func39, Try.ntmps39
    go_wp2_with fail
    refine (rnan_any a ha _).mono ?_
    rintro e w' ⟨rfl, rfl⟩
    go_wp2_with fail
    go_ret2
    exact ⟨ret_ue2 hf.out.2.2.2.1.symm hf.out.2.2.2.2.symm, rfl⟩
  · have na : isNaN a = false := by simpa using na
    by_cases nb : isNaN b = true
    · have hf := Lib.hid (mid_nan (show (isNaN a || isNaN b) = true by rw [na, nb]; rfl))
      go_enter Try.func39, Try.ntmps39
      go_wp2_with fail
      refine (rnan_any a ha _).mono ?_
      rintro e w' ⟨rfl, rfl⟩
      go_wp2_with fail
      refine (rnan_any b hb _).mono ?_
      rintro e w' ⟨rfl, rfl⟩
      go_wp2_with fail
      go_ret2
      exact ⟨ret_ue2 hf.out.2.2.2.1.symm hf.out.2.2.2.2.symm, rfl⟩
    · have nb : isNaN b = false := by simpa using nb
      have hn : (isNaN a || isNaN b) = false := by rw [na, nb]; rfl
      by_cases hk : fkey b < fkey a
      · have hf := Lib.hid (mid_gt hn hk)
        clear hn
        go_enter Try.func39, Try.ntmps39
        go_wp2_with fail
        refine (rnan_any a ha _).mono ?_
        rintro e w' ⟨rfl, rfl⟩
        go_wp2_with fail
        refine (rnan_any b hb _).mono ?_
        rintro e w' ⟨rfl, rfl⟩
        go_wp2_with fail
        refine (rkey_any a ha _).mono ?_
        rintro e w' ⟨rfl, rfl⟩
        go_wp2_with fail
        refine (rkey_any b hb _).mono ?_
        rintro e w' ⟨rfl, rfl⟩
        go_wp2_with fail
        go_ret2
        exact ⟨ret_ue2 hf.out.2.2.2.1.symm hf.out.2.2.2.2.symm, rfl⟩
      · have hk : fkey a ≤ fkey b := by omega
        have hf := Lib.hid (mid_le hn hk)
        clear hn
        go_enter Try.func39, Try.ntmps39
        go_wp2_with fail
        refine (rnan_any a ha _).mono ?_
        rintro e w' ⟨rfl, rfl⟩
        go_wp2_with fail
        refine (rnan_any b hb _).mono ?_
        rintro e w' ⟨rfl, rfl⟩
        go_wp2_with fail
        refine (rkey_any a ha _).mono ?_
        rintro e w' ⟨rfl, rfl⟩
        go_wp2_with fail
        refine (rkey_any b hb _).mono ?_
        rintro e w' ⟨rfl, rfl⟩
        go_wp2_with fail
        go_ret2
        exact ⟨ret_ue2 hf.out.2.2.2.1.symm hf.out.2.2.2.2.symm, rfl⟩
end Go.Proofs.Ytdjmdnppkchgmaa
