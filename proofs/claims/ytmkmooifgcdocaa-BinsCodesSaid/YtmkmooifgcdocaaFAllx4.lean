-- written by fprint.sh, a program of ours over the kit's print: not by hand
import Derived.Test.YtmkmooifgcdocaaFAllx0
import Derived.Test.YtmkmooifgcdocaaFAllx2
namespace Go.Proofs.Ytmkmooifgcdocaa.FAll
open Go.RowKit Go.Proofs.YtmkmooifgcdocaaW.PrintWords Go.Proofs.YtmkmooifgcdocaaW.PrintLast Go.Proofs.YtmkmooifgcdocaaW.PrintMore
attribute [local go_sem] feq_walk fne_walk flt_walk fle_walk fgt_walk fge_walk fint_walk run_f64bits run_f64from max2_int min2_int max_two min_two max_three min_three max_four min_four   -- for this text's walks alone
set_option linter.unusedVariables false
set_option linter.unusedSimpArgs false
/-! ### bins_below_float64_uint64: function 24 -/
def bins_below_float64_uint64.l0 : Nat → List Nat → Int → Int → Int → Option (Int)
 | 0, _, _, _, _ => none
 | k + 1, x0, x2, x7, x8 => if x7 < x8 then (if 0 ≤ (wrap64 (Int.tdiv (wrap64 (x7 + x8)) 2)) then (if (wrap64 (Int.tdiv (wrap64 (x7 + x8)) 2)) < (x0.length : Int) then ((order_Key.f (rdOf (0 : Nat) x0 (wrap64 (Int.tdiv (wrap64 (x7 + x8)) 2)))).bind fun t118 => (if t118 < x2 then (bins_below_float64_uint64.l0 k x0 x2 (wrap64 ((wrap64 (Int.tdiv (wrap64 (x7 + x8)) 2)) + 1)) x8) else (bins_below_float64_uint64.l0 k x0 x2 x7 (wrap64 (Int.tdiv (wrap64 (x7 + x8)) 2))))) else (none)) else (none)) else (some x7)
def bins_below_float64_uint64.f (k : Nat) (l0 : List Nat)  (a2 : Int) : Option (Int) := bins_below_float64_uint64.l0 k l0 a2 0 (l0.length : Int)
theorem bins_below_float64_uint64.mono_l : ∀ k, (∀ y0 y1 y2 y3, LeO (bins_below_float64_uint64.l0 k y0 y1 y2 y3) (bins_below_float64_uint64.l0 (k + 1) y0 y1 y2 y3))
 | 0 => fun _ _ _ _ r h => by simp [bins_below_float64_uint64.l0] at h
 | k + 1 => by
  have ih0 := bins_below_float64_uint64.mono_l k
  ·intro y0 y1 y2 y3
   unfold bins_below_float64_uint64.l0
   repeat' first
   | (with_reducible exact ih0 _ _ _ _)
   | (with_reducible exact LeO.refl _)
   | (with_reducible exact LeO.none _)
   | (with_reducible refine LeO.ite ?_ ?_)
   | (with_reducible refine LeO.bind ?_ (fun _ => ?_))
   | exact ih0 _ _ _ _
   | exact LeO.none _
   | refine LeO.ite ?_ ?_
   | refine LeO.bind ?_ (fun _ => ?_)
theorem bins_below_float64_uint64.mono : ∀ a0 a1 k, LeO (bins_below_float64_uint64.f k a0 a1) (bins_below_float64_uint64.f (k + 1) a0 a1) := by
 intro a0 a1 k
 have ih0 := bins_below_float64_uint64.mono_l k
 unfold bins_below_float64_uint64.f
 repeat' first
   | (with_reducible exact ih0 _ _ _ _)
   | (with_reducible exact LeO.refl _)
   | (with_reducible exact LeO.none _)
   | (with_reducible refine LeO.ite ?_ ?_)
   | (with_reducible refine LeO.bind ?_ (fun _ => ?_))
   | exact ih0 _ _ _ _
   | exact LeO.none _
   | refine LeO.ite ?_ ?_
   | refine LeO.bind ?_ (fun _ => ?_)
set_option maxHeartbeats 8000000 in
set_option maxRecDepth 100000 in
theorem bins_below_float64_uint64.calls (k : Nat) (A0 : Option Addr) (c0 : Nat) (l0 : List Nat)  (a2 : Int) (r : Int) (w : World) (hr0 : Kd.C Kd.f64 w A0 l0.length l0) (hc0 : l0.length ≤ c0) (h : bins_below_float64_uint64.f k l0 a2 = some r) :
  Calls Try.prog 24 #[.slice A0 l0.length c0, .func (.func 25) #[] #[], .int .u64 a2] w fun e w' => e = .returned (.int .i64 r) ∧ Drawn0 w w' := by
 have HR0 := Aside0.mk hr0
 have HC0 := Aside0.mk hc0
 clear hr0 hc0
 have H : (bins_below_float64_uint64.l0 k l0 a2 0 (l0.length : Int)) = some r := h
 clear h
 have H' := Aside0.mk H
 clear H
 go_enter Try.func24, Try.ntmps24
 go_wp2
 go_loopg [7, 8] k (fun kq v7 v8 w' => ∃ (x7_1 : Int) (x8_1 : Int), v7 = .int .i64 x7_1 ∧ v8 = .int .i64 x8_1 ∧ Aside0 (bins_below_float64_uint64.l0 kq l0 a2 x7_1 x8_1 = some r) ∧ Aside0 (kq ≤ k) ∧ Drawn0 w w')
 case atStart => exact ⟨(0), ((l0.length : Int)), (by first | rfl | (simp; done) | (simp [*]; done)), (by first | rfl | (simp; done) | (simp [*]; done)), H', ⟨Nat.le_refl _⟩, by repeat (first | exact Drawn0.refl _ | apply Drawn0.step)⟩
 case round =>
  clear H'
  try clear c2
  try clear p2
  obtain ⟨x7_1, x8_1, rfl, rfl, HA, HK1, ⟨m1, rfl⟩⟩ := hrel
  cases gk with
  | zero => exact absurd HA.out (by simp [bins_below_float64_uint64.l0])
  | succ k1 =>
   have H := HA.out
   clear HA
   simp only [bins_below_float64_uint64.l0] at H
   by_cases c4 : x7_1 < x8_1
   ·rw [if_pos c4] at H
    have c4b0 : decide (x7_1 < x8_1) = true := decide_eq_true c4
    clear c4
    obtain ⟨ji5, hji5⟩ : ∃ j_ : Int, (wrap64 (Int.tdiv (wrap64 (x7_1 + x8_1)) 2)) = j_ := ⟨_, rfl⟩
    replace H : (if 0 ≤ (ji5) then (if (ji5) < (l0.length : Int) then ((order_Key.f (rdOf (0 : Nat) l0 (ji5))).bind fun t118 => (if t118 < a2 then (bins_below_float64_uint64.l0 k1 l0 a2 (wrap64 ((ji5) + 1)) x8_1) else (bins_below_float64_uint64.l0 k1 l0 a2 x7_1 ji5))) else (none)) else (none)) = some r := by first | (rw [hji5] at H; exact H) | (simp only [hji5] at H ⊢; exact H)
    have hji5w : (IntKind.i64.wrap (Int.tdiv (wrap64 (x7_1 + x8_1)) 2)) = ji5 := (i64_w _).trans hji5
    by_cases c6 : 0 ≤ (ji5)
    ·rw [if_pos c6] at H
     have c6b0 : decide (0 ≤ (ji5)) = true := decide_eq_true c6
     clear c6
     by_cases c7 : (ji5) < (l0.length : Int)
     ·rw [if_pos c7] at H
      have c7b0 : decide ((ji5) < (l0.length : Int)) = true := decide_eq_true c7
      clear c7
      replace H := Option.bind_eq_some_iff.mp H
      obtain ⟨t118, A80, H⟩ := H
      replace H : (if t118 < a2 then (bins_below_float64_uint64.l0 k1 l0 a2 (wrap64 ((ji5) + 1)) x8_1) else (bins_below_float64_uint64.l0 k1 l0 a2 x7_1 ji5)) = some r := H
      have A8 := Aside0.mk A80
      clear A80
      by_cases c9 : t118 < a2
      ·rw [if_pos c9] at H
       have c9b0 : decide (t118 < a2) = true := decide_eq_true c9
       clear c9
       have H' := Aside0.mk H
       clear H
       have p117 : 0 ≤ ((ji5) : Int) := of_decide_eq_true (by first | (with_reducible assumption) | assumption)
       have q117 : (ji5) < (l0.length : Int) := of_decide_eq_true (by first | (with_reducible assumption) | assumption)
       obtain ⟨ad117, e117, hx117_0⟩ := Kd.at_f64 HR0.out (ji5) p117 q117
       cases e117
       replace p117 := eq_true p117
       replace q117 := eq_true q117
       go_wp2_with (first | (go_at_call 25; (with_reducible refine (order_Key.calls (rdOf (0 : Nat) l0 (ji5)) t118 _ A8.out).mono ?_); rintro e w' ⟨rfl, ⟨nd, rfl⟩⟩))
       go_roundg k1
       case measure => have := HK1.out; omega
       case rel => exact ⟨(wrap64 ((ji5) + 1)), (x8_1), (by first | rfl | (simp; done) | (simp only [← hji5] <;> (first | rfl | simp)) | (simp [*]; done)), (by first | rfl | (simp; done) | (simp [*]; done)), H', ⟨by have := HK1.out; omega⟩, by repeat (first | exact Drawn0.refl _ | apply Drawn0.step)⟩
      ·rw [if_neg c9] at H
       have c9b0 : decide (t118 < a2) = false := decide_eq_false c9
       clear c9
       have H' := Aside0.mk H
       clear H
       have p117 : 0 ≤ ((ji5) : Int) := of_decide_eq_true (by first | (with_reducible assumption) | assumption)
       have q117 : (ji5) < (l0.length : Int) := of_decide_eq_true (by first | (with_reducible assumption) | assumption)
       obtain ⟨ad117, e117, hx117_0⟩ := Kd.at_f64 HR0.out (ji5) p117 q117
       cases e117
       replace p117 := eq_true p117
       replace q117 := eq_true q117
       go_wp2_with (first | (go_at_call 25; (with_reducible refine (order_Key.calls (rdOf (0 : Nat) l0 (ji5)) t118 _ A8.out).mono ?_); rintro e w' ⟨rfl, ⟨nd, rfl⟩⟩))
       go_roundg k1
       case measure => have := HK1.out; omega
       case rel => exact ⟨(x7_1), (ji5), (by first | rfl | (simp; done) | (simp [*]; done)), (by first | rfl | (simp; done) | (simp only [← hji5] <;> (first | rfl | simp)) | (simp [*]; done)), H', ⟨by have := HK1.out; omega⟩, by repeat (first | exact Drawn0.refl _ | apply Drawn0.step)⟩
     ·rw [if_neg c7] at H
      exact absurd H (by simp)
    ·rw [if_neg c6] at H
     exact absurd H (by simp)
   ·rw [if_neg c4] at H
    have c4b0 : decide (x7_1 < x8_1) = false := decide_eq_false c4
    clear c4
    obtain rfl := Option.some.inj H
    go_wp2
    go_ret
    exact ⟨by first | rfl | (simp; done) | (simp [*]; done), by repeat (first | exact Drawn0.refl _ | apply Drawn0.step)⟩
/-! ### bins_code_1: function 27 -/
def bins_code_1.f (a0 : Int) : Option (Nat) := some (f64int a0)
set_option maxHeartbeats 8000000 in
set_option maxRecDepth 100000 in
theorem bins_code_1.calls (a0 : Int) (r : Nat) (w : World) (h : bins_code_1.f a0 = some r) :
  Calls Try.prog 27 #[.int .i64 a0] w fun e w' => e = .returned (.float .f64 r) ∧ Drawn0 w w' := by
 have H : (some (f64int a0)) = some r := h
 clear h
 obtain rfl := Option.some.inj H
 go_enter Try.func27, Try.ntmps27
 go_wp2
 go_ret
 exact ⟨by first | rfl | (simp; done) | (simp [*]; done), by repeat (first | exact Drawn0.refl _ | apply Drawn0.step)⟩
/-! ### bins_below_int_float64: function 26 -/
def bins_below_int_float64.l0 : Nat → List Int → Nat → Int → Int → Option (Int)
 | 0, _, _, _, _ => none
 | k + 1, x0, x2, x7, x8 => if x7 < x8 then (if 0 ≤ (wrap64 (Int.tdiv (wrap64 (x7 + x8)) 2)) then (if (wrap64 (Int.tdiv (wrap64 (x7 + x8)) 2)) < (x0.length : Int) then ((bins_code_1.f (rd x0 (wrap64 (Int.tdiv (wrap64 (x7 + x8)) 2)))).bind fun t120 => (if (flt t120 x2) = true then (bins_below_int_float64.l0 k x0 x2 (wrap64 ((wrap64 (Int.tdiv (wrap64 (x7 + x8)) 2)) + 1)) x8) else (bins_below_int_float64.l0 k x0 x2 x7 (wrap64 (Int.tdiv (wrap64 (x7 + x8)) 2))))) else (none)) else (none)) else (some x7)
def bins_below_int_float64.f (k : Nat) (l0 : List Int)  (a2 : Nat) : Option (Int) := bins_below_int_float64.l0 k l0 a2 0 (l0.length : Int)
theorem bins_below_int_float64.mono_l : ∀ k, (∀ y0 y1 y2 y3, LeO (bins_below_int_float64.l0 k y0 y1 y2 y3) (bins_below_int_float64.l0 (k + 1) y0 y1 y2 y3))
 | 0 => fun _ _ _ _ r h => by simp [bins_below_int_float64.l0] at h
 | k + 1 => by
  have ih0 := bins_below_int_float64.mono_l k
  ·intro y0 y1 y2 y3
   unfold bins_below_int_float64.l0
   repeat' first
   | (with_reducible exact ih0 _ _ _ _)
   | (with_reducible exact LeO.refl _)
   | (with_reducible exact LeO.none _)
   | (with_reducible refine LeO.ite ?_ ?_)
   | (with_reducible refine LeO.bind ?_ (fun _ => ?_))
   | exact ih0 _ _ _ _
   | exact LeO.none _
   | refine LeO.ite ?_ ?_
   | refine LeO.bind ?_ (fun _ => ?_)
theorem bins_below_int_float64.mono : ∀ a0 a1 k, LeO (bins_below_int_float64.f k a0 a1) (bins_below_int_float64.f (k + 1) a0 a1) := by
 intro a0 a1 k
 have ih0 := bins_below_int_float64.mono_l k
 unfold bins_below_int_float64.f
 repeat' first
   | (with_reducible exact ih0 _ _ _ _)
   | (with_reducible exact LeO.refl _)
   | (with_reducible exact LeO.none _)
   | (with_reducible refine LeO.ite ?_ ?_)
   | (with_reducible refine LeO.bind ?_ (fun _ => ?_))
   | exact ih0 _ _ _ _
   | exact LeO.none _
   | refine LeO.ite ?_ ?_
   | refine LeO.bind ?_ (fun _ => ?_)
set_option maxHeartbeats 8000000 in
set_option maxRecDepth 100000 in
theorem bins_below_int_float64.calls (k : Nat) (A0 : Option Addr) (c0 : Nat) (l0 : List Int)  (a2 : Nat) (r : Int) (w : World) (hr0 : Kd.C (Kd.int .i64) w A0 l0.length l0) (hc0 : l0.length ≤ c0) (h : bins_below_int_float64.f k l0 a2 = some r) :
  Calls Try.prog 26 #[.slice A0 l0.length c0, .func (.func 27) #[] #[], .float .f64 a2] w fun e w' => e = .returned (.int .i64 r) ∧ Drawn0 w w' := by
 have HR0 := Aside0.mk hr0
 have HC0 := Aside0.mk hc0
 clear hr0 hc0
 have H : (bins_below_int_float64.l0 k l0 a2 0 (l0.length : Int)) = some r := h
 clear h
 have H' := Aside0.mk H
 clear H
 go_enter Try.func26, Try.ntmps26
 go_wp2
 go_loopg [7, 8] k (fun kq v7 v8 w' => ∃ (x7_1 : Int) (x8_1 : Int), v7 = .int .i64 x7_1 ∧ v8 = .int .i64 x8_1 ∧ Aside0 (bins_below_int_float64.l0 kq l0 a2 x7_1 x8_1 = some r) ∧ Aside0 (kq ≤ k) ∧ Drawn0 w w')
 case atStart => exact ⟨(0), ((l0.length : Int)), (by first | rfl | (simp; done) | (simp [*]; done)), (by first | rfl | (simp; done) | (simp [*]; done)), H', ⟨Nat.le_refl _⟩, by repeat (first | exact Drawn0.refl _ | apply Drawn0.step)⟩
 case round =>
  clear H'
  try clear c2
  try clear p2
  obtain ⟨x7_1, x8_1, rfl, rfl, HA, HK1, ⟨m1, rfl⟩⟩ := hrel
  cases gk with
  | zero => exact absurd HA.out (by simp [bins_below_int_float64.l0])
  | succ k1 =>
   have H := HA.out
   clear HA
   simp only [bins_below_int_float64.l0] at H
   by_cases c4 : x7_1 < x8_1
   ·rw [if_pos c4] at H
    have c4b0 : decide (x7_1 < x8_1) = true := decide_eq_true c4
    clear c4
    obtain ⟨ji5, hji5⟩ : ∃ j_ : Int, (wrap64 (Int.tdiv (wrap64 (x7_1 + x8_1)) 2)) = j_ := ⟨_, rfl⟩
    replace H : (if 0 ≤ (ji5) then (if (ji5) < (l0.length : Int) then ((bins_code_1.f (rd l0 (ji5))).bind fun t120 => (if (flt t120 a2) = true then (bins_below_int_float64.l0 k1 l0 a2 (wrap64 ((ji5) + 1)) x8_1) else (bins_below_int_float64.l0 k1 l0 a2 x7_1 ji5))) else (none)) else (none)) = some r := by first | (rw [hji5] at H; exact H) | (simp only [hji5] at H ⊢; exact H)
    have hji5w : (IntKind.i64.wrap (Int.tdiv (wrap64 (x7_1 + x8_1)) 2)) = ji5 := (i64_w _).trans hji5
    by_cases c6 : 0 ≤ (ji5)
    ·rw [if_pos c6] at H
     have c6b0 : decide (0 ≤ (ji5)) = true := decide_eq_true c6
     clear c6
     by_cases c7 : (ji5) < (l0.length : Int)
     ·rw [if_pos c7] at H
      have c7b0 : decide ((ji5) < (l0.length : Int)) = true := decide_eq_true c7
      clear c7
      replace H := Option.bind_eq_some_iff.mp H
      obtain ⟨t120, A80, H⟩ := H
      replace H : (if (flt t120 a2) = true then (bins_below_int_float64.l0 k1 l0 a2 (wrap64 ((ji5) + 1)) x8_1) else (bins_below_int_float64.l0 k1 l0 a2 x7_1 ji5)) = some r := H
      have A8 := Aside0.mk A80
      clear A80
      by_cases c9 : (flt t120 a2) = true
      ·rw [if_pos c9] at H
       have c9b0 : (flt t120 a2) = true := c9
       clear c9
       have H' := Aside0.mk H
       clear H
       have p119 : 0 ≤ ((ji5) : Int) := of_decide_eq_true (by first | (with_reducible assumption) | assumption)
       have q119 : (ji5) < (l0.length : Int) := of_decide_eq_true (by first | (with_reducible assumption) | assumption)
       obtain ⟨ad119, e119, hx119_0⟩ := Kd.at_int HR0.out (ji5) p119 q119
       cases e119
       replace p119 := eq_true p119
       replace q119 := eq_true q119
       go_wp2_with (first | (go_at_call 27; (with_reducible refine (bins_code_1.calls (rd l0 (ji5)) t120 _ A8.out).mono ?_); rintro e w' ⟨rfl, ⟨nd, rfl⟩⟩))
       go_roundg k1
       case measure => have := HK1.out; omega
       case rel => exact ⟨(wrap64 ((ji5) + 1)), (x8_1), (by first | rfl | (simp; done) | (simp only [← hji5] <;> (first | rfl | simp)) | (simp [*]; done)), (by first | rfl | (simp; done) | (simp [*]; done)), H', ⟨by have := HK1.out; omega⟩, by repeat (first | exact Drawn0.refl _ | apply Drawn0.step)⟩
      ·rw [if_neg c9] at H
       have c9b0 : (flt t120 a2) = false := by simpa using c9
       clear c9
       have H' := Aside0.mk H
       clear H
       have p119 : 0 ≤ ((ji5) : Int) := of_decide_eq_true (by first | (with_reducible assumption) | assumption)
       have q119 : (ji5) < (l0.length : Int) := of_decide_eq_true (by first | (with_reducible assumption) | assumption)
       obtain ⟨ad119, e119, hx119_0⟩ := Kd.at_int HR0.out (ji5) p119 q119
       cases e119
       replace p119 := eq_true p119
       replace q119 := eq_true q119
       go_wp2_with (first | (go_at_call 27; (with_reducible refine (bins_code_1.calls (rd l0 (ji5)) t120 _ A8.out).mono ?_); rintro e w' ⟨rfl, ⟨nd, rfl⟩⟩))
       go_roundg k1
       case measure => have := HK1.out; omega
       case rel => exact ⟨(x7_1), (ji5), (by first | rfl | (simp; done) | (simp [*]; done)), (by first | rfl | (simp; done) | (simp only [← hji5] <;> (first | rfl | simp)) | (simp [*]; done)), H', ⟨by have := HK1.out; omega⟩, by repeat (first | exact Drawn0.refl _ | apply Drawn0.step)⟩
     ·rw [if_neg c7] at H
      exact absurd H (by simp)
    ·rw [if_neg c6] at H
     exact absurd H (by simp)
   ·rw [if_neg c4] at H
    have c4b0 : decide (x7_1 < x8_1) = false := decide_eq_false c4
    clear c4
    obtain rfl := Option.some.inj H
    go_wp2
    go_ret
    exact ⟨by first | rfl | (simp; done) | (simp [*]; done), by repeat (first | exact Drawn0.refl _ | apply Drawn0.step)⟩
end Go.Proofs.Ytmkmooifgcdocaa.FAll
