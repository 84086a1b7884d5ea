/-
 thicketref14.Same and Alike: of what reads the same they say so.
-/
import Derived.Test.YtfmjgjfbnilpoaaZq
import Derived.Test.YtfmjgjfbnilpoaaQs
import Derived.Test.YtfmjgjfbnilpoaaFAllx7
namespace Go.Proofs.Ytfmjgjfbnilpoaa.FAll
open Go.RowKit YtfmjgjfbnilpoaaW.PrintWords YtfmjgjfbnilpoaaW.PrintLast YtfmjgjfbnilpoaaW.PrintMore
attribute [local go_sem] fstore_walk run_f64bits feq_walk fne_walk
set_option linter.unusedVariables false
set_option linter.unusedSimpArgs false
theorem one_self (a : Nat) : thicketref14_One.f a a = some true := by
 unfold thicketref14_One.f
 simp
set_option maxHeartbeats 8000000 in
set_option maxRecDepth 100000 in
theorem cuts_same (w : World) (A : Option Addr) (c : Nat) (B : Option Addr) (d : Nat) (xs : List S56) (ha : Aside0 (Kd.C k56 w A xs.length xs)) (hb : Aside0 (Kd.C k56 w B xs.length xs)) :
  Calls Try.prog 14 #[.slice A xs.length c, .slice B xs.length d] w fun e w' => e = .returned (.bool true) ∧ Drawn0 w w' := by
 have LN := aS_ (show xs.length ≤ 9223372036854775807 from (show ReadsRow _ _ _ _ _ _ from ha.out).2.1)
 go_enter Try.func14, Try.ntmps14
 go_wp2
 go_loopg [5] (xs.length + 1) (fun kq v5 w' => ∃ (x : Int) (n : Nat), v5 = .int .i64 x ∧ Aside0 (x = n) ∧ Aside0 (n ≤ xs.length) ∧ Aside0 (xs.length - n < kq) ∧ Drawn0 w w')
 case atStart => exact ⟨0, 0, rfl, ⟨rfl⟩, ⟨Nat.zero_le _⟩, ⟨by omega⟩, by repeat (first | exact Drawn0.refl _ | apply Drawn0.step)⟩
 case round =>
  obtain ⟨x, n, rfl, hx, hn, hk, HD⟩ := hrel
  have HD := aS_ HD
  have HB := aS_ HD.out.below
  cases gk with
  | zero => exact absurd hk.out (by omega)
  | succ k1 =>
   have hxx := hx.out
   have hnn := hn.out
   by_cases hend : n = xs.length
   ·have cnd : decide (x < (xs.length : Int)) = false := decide_eq_false (by omega)
    clear hxx hnn hend
    go_wp2
    go_ret
    exact ⟨rfl, by repeat (first | exact HD.out | exact Drawn0.refl _ | apply Drawn0.step)⟩
   ·have cnd : decide (x < (xs.length : Int)) = true := decide_eq_true (by omega)
    have p1 : 0 ≤ x := by omega
    have p2 : x < (xs.length : Int) := by omega
    have hlt : n < xs.length := by omega
    obtain ⟨ad, A1, c1, rfl, e0, e1, e2, e3, e4, l1, g1⟩ := at_T56 ha.out x p1 p2
    obtain ⟨bd, B1, d1, rfl, f0, f1, f2, f3, f4, m1, h1⟩ := at_T56 hb.out x p1 p2
    obtain ⟨y, hy⟩ : ∃ y, y = rd_T56 xs x := ⟨_, rfl⟩
    rw [← hy] at e0 e1 e2 e3 e4 l1 g1 f0 f1 f2 f3 f4 m1 h1
    replace e0 := cB_ HB.out e0
    replace e1 := cB_ HB.out e1
    replace e2 := cB_ HB.out e2
    replace e3 := cB_ HB.out e3
    replace e4 := cB_ HB.out e4
    replace f0 := cB_ HB.out f0
    replace f1 := cB_ HB.out f1
    replace f2 := cB_ HB.out f2
    replace f3 := cB_ HB.out f3
    replace f4 := cB_ HB.out f4
    replace g1 := Kd.C_below g1 HB.out
    replace h1 := Kd.C_below h1 HB.out
    obtain ⟨ki, hki⟩ := ints_total y.f1 (show ReadsRow _ _ _ _ _ _ from g1).2.1
    have KI := aS_ hki
    have L1 := aS_ l1
    have M1 := aS_ m1
    have G1 := aS_ (g1)
    have H1 := aS_ (h1)
    have HLT := aS_ hlt
    have XN := aS_ hxx
    replace p1 := eq_true p1
    replace p2 := eq_true p2
    clear hxx hnn hend hlt hy hki l1 m1 g1 h1
    go_wp2
    go_quiet (first | (go_at_call 35; exact Calls.quiet_of ((thicketref14_One.calls y.f0 y.f0 true _ (one_self y.f0)).mono fun e w' h => ⟨h.1, h.2.out⟩)) | (go_at_call 36; exact Calls.quiet_of (((thicketref07_Ints.calls ki A1 c1 y.f1 B1 d1 y.f1 true _ (Kd.C_drewN G1.out _) L1.out (Kd.C_drewN H1.out _) M1.out KI.out).mono fun e w' h => ⟨h.1, h.2.out⟩))))
    go_wp2
    go_roundg k1
    case measure => have := hk.out; omega
    case rel => exact ⟨_, n + 1, rfl, ⟨by have := XN.out; have := HLT.out; have := LN.out; unfold wrap64; omega⟩, ⟨HLT.out⟩, ⟨by have := hk.out; have := HLT.out; omega⟩, by repeat (first | exact HD.out | exact Drawn0.refl _ | apply Drawn0.step)⟩
set_option maxHeartbeats 8000000 in
set_option maxRecDepth 100000 in
theorem lists_same (w : World) (A : Option Addr) (c : Nat) (B : Option Addr) (d : Nat) (xs : List S35) (ha : Aside0 (Kd.C k35 w A xs.length xs)) (hb : Aside0 (Kd.C k35 w B xs.length xs)) :
  Calls Try.prog 10 #[.slice A xs.length c, .slice B xs.length d] w fun e w' => e = .returned (.bool true) ∧ Drawn0 w w' := by
 have LN := aS_ (show xs.length ≤ 9223372036854775807 from (show ReadsRow _ _ _ _ _ _ from ha.out).2.1)
 go_enter Try.func10, Try.ntmps10
 go_wp2
 go_loopg [5] (xs.length + 1) (fun kq v5 w' => ∃ (x : Int) (n : Nat), v5 = .int .i64 x ∧ Aside0 (x = n) ∧ Aside0 (n ≤ xs.length) ∧ Aside0 (xs.length - n < kq) ∧ Drawn0 w w')
 case atStart => exact ⟨0, 0, rfl, ⟨rfl⟩, ⟨Nat.zero_le _⟩, ⟨by omega⟩, by repeat (first | exact Drawn0.refl _ | apply Drawn0.step)⟩
 case round =>
  obtain ⟨x, n, rfl, hx, hn, hk, HD⟩ := hrel
  have HD := aS_ HD
  have HB := aS_ HD.out.below
  cases gk with
  | zero => exact absurd hk.out (by omega)
  | succ k1 =>
   have hxx := hx.out
   have hnn := hn.out
   by_cases hend : n = xs.length
   ·have cnd : decide (x < (xs.length : Int)) = false := decide_eq_false (by omega)
    clear hxx hnn hend
    go_wp2
    go_ret
    exact ⟨rfl, by repeat (first | exact HD.out | exact Drawn0.refl _ | apply Drawn0.step)⟩
   ·have cnd : decide (x < (xs.length : Int)) = true := decide_eq_true (by omega)
    have p1 : 0 ≤ x := by omega
    have p2 : x < (xs.length : Int) := by omega
    have hlt : n < xs.length := by omega
    obtain ⟨ad, A1, c1, A2, c2, A3, c3, rfl, e0, e1, e2, e3, l1, g1, l2, g2, l3, g3⟩ := at_T35 ha.out x p1 p2
    obtain ⟨bd, B1, d1, B2, d2, B3, d3, rfl, f0, f1, f2, f3, m1, h1, m2, h2, m3, h3⟩ := at_T35 hb.out x p1 p2
    obtain ⟨y, hy⟩ : ∃ y, y = rd_T35 xs x := ⟨_, rfl⟩
    rw [← hy] at e0 e1 e2 e3 f0 f1 f2 f3 g1 g2 g3 h1 h2 h3
    replace e0 := cB_ HB.out e0
    replace e1 := cB_ HB.out e1
    replace e2 := cB_ HB.out e2
    replace e3 := cB_ HB.out e3
    replace f0 := cB_ HB.out f0
    replace f1 := cB_ HB.out f1
    replace f2 := cB_ HB.out f2
    replace f3 := cB_ HB.out f3
    replace g1 := Kd.C_below g1 HB.out
    replace g2 := Kd.C_below g2 HB.out
    replace g3 := Kd.C_below g3 HB.out
    replace h1 := Kd.C_below h1 HB.out
    replace h2 := Kd.C_below h2 HB.out
    replace h3 := Kd.C_below h3 HB.out
    have G1 := aS_ g1
    have G2 := aS_ g2
    have G3 := aS_ g3
    have H1 := aS_ h1
    have H2 := aS_ h2
    have H3 := aS_ h3
    have HLT := aS_ hlt
    have XN := aS_ hxx
    replace p1 := eq_true p1
    replace p2 := eq_true p2
    clear hxx hnn hend hlt hy l1 l2 l3 m1 m2 m3 g1 g2 g3 h1 h2 h3
    have Q1 := aS_ (fun m => (cuts_same (wr.drewN m) A1 c1 B1 d1 y.f1 ⟨Kd.C_drewN G1.out m⟩ ⟨Kd.C_drewN H1.out m⟩).mono (fun e w' h => (⟨h.1, h.2.out⟩ : e = .returned (.bool true) ∧ ∃ n, w' = (wr.drewN m).drewN n)))
    have Q2 := aS_ (fun m => (cuts_same (wr.drewN m) A2 c2 B2 d2 y.f2 ⟨Kd.C_drewN G2.out m⟩ ⟨Kd.C_drewN H2.out m⟩).mono (fun e w' h => (⟨h.1, h.2.out⟩ : e = .returned (.bool true) ∧ ∃ n, w' = (wr.drewN m).drewN n)))
    have Q3 := aS_ (fun m => (cuts_same (wr.drewN m) A3 c3 B3 d3 y.f3 ⟨Kd.C_drewN G3.out m⟩ ⟨Kd.C_drewN H3.out m⟩).mono (fun e w' h => (⟨h.1, h.2.out⟩ : e = .returned (.bool true) ∧ ∃ n, w' = (wr.drewN m).drewN n)))
    clear G1 G2 G3 H1 H2 H3
    go_wp2
    go_quiet (first | (go_at_call 14; (with_reducible exact Calls.quiet_of (Q1.out _))) | (go_at_call 14; (with_reducible exact Calls.quiet_of (Q2.out _))) | (go_at_call 14; (with_reducible exact Calls.quiet_of (Q3.out _))))
    go_wp2
    go_roundg k1
    case measure => have := hk.out; omega
    case rel => exact ⟨_, n + 1, rfl, ⟨by have := XN.out; have := HLT.out; have := LN.out; unfold wrap64; omega⟩, ⟨HLT.out⟩, ⟨by have := hk.out; have := HLT.out; omega⟩, by repeat (first | exact HD.out | exact Drawn0.refl _ | apply Drawn0.step)⟩
end Go.Proofs.Ytfmjgjfbnilpoaa.FAll
