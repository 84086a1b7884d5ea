-- written by fprint.sh, a program of ours over the kit's print: not by hand
import Derived.Test.YtkemfbocojoagaaDoorFAllx0
namespace Go.Proofs.YtkemfbocojoagaaDoor.FAll
open Go.RowKit Go.Proofs.YtkemfbocojoagaaDoorW.PrintWords Go.Proofs.YtkemfbocojoagaaDoorW.PrintLast Go.Proofs.YtkemfbocojoagaaDoorW.PrintMore
attribute [local go_sem] feq_walk fne_walk flt_walk fle_walk fgt_walk fge_walk fint_walk fstore_walk run_f64bits max2_int min2_int max_two min_two max_three min_three max_four min_four   -- for this text's walks alone
set_option linter.unusedVariables false
set_option linter.unusedSimpArgs false
/-! ### thicketref08_broken: function 30 -/
def thicketref08_broken.f (a0 : Int) (a1 : Int) (a2 : Int) : Option (Int × Int × Int × Bool) := some (a0, a1, a2, true)
set_option maxHeartbeats 8000000 in
set_option maxRecDepth 100000 in
theorem thicketref08_broken.calls (a0 : Int) (a1 : Int) (a2 : Int) (r1 : Int) (r2 : Int) (r3 : Int) (r4 : Bool) (w : World) (h : thicketref08_broken.f a0 a1 a2 = some (r1, r2, r3, r4)) :
  Calls Tryd.prog 30 #[.int .i64 a0, .int .i64 a1, .int .i64 a2] w fun e w' => e = .returned (.tuple #[.agg #[.int .i64 r1, .int .i64 r2, .int .i64 r3], .bool r4]) ∧ Below w.heap.size w w' := by
 have hu30 := Tryd.underlying30
 have HB := Aside0.mk (Below.refl w.heap.size w)
 have H : (some (a0, a1, a2, true)) = some (r1, r2, r3, r4) := h
 clear h
 simp only [Option.some.injEq, Prod.mk.injEq] at H
 obtain ⟨rfl, rfl, rfl, rfl⟩ := H
 go_enter Tryd.func30, Tryd.ntmps30
 go_wp2_with (first | ((with_reducible refine gate_dst (N := 6) rfl ?_); refine box_event ?hg (N := 6) ?hd (cs := #[.int .i64 0, .int .i64 0, .int .i64 0]) (t := 30) ?hr ?_; (case hd => rfl); (case hg => rfl); (case hr => first | (go_simp; done) | (go_simp; rfl)); intro gb128 hg w4 hbox hb; have n0_ := Aside0.mk (below_step (kB0 HB) hb); have n1_ := Aside0.mk (hbox); have n2_ := Aside0.mk ((kg hg (kB0 HB) : w.heap.size ≤ gb128)); have n3_ := Aside0.mk ((kg hg (kB0 HB) : w.heap.size ≤ gb128)); clear HB; have HB := n0_; have BK128 := n1_; have GW128 := n2_; have GE128 := n3_; clear n0_ n1_ n2_ n3_; clear hb hbox hg; have hcz5 := blk3 (w := w4) BK128.out))
 refine bodyPost_ret (results_ct rfl _ _ gb128 30 #[.int .i64 a0, .int .i64 a1, .int .i64 a2] (0, 0) _ rfl (by (with_reducible repeat (first | refine blk_drewN ?_ _ | refine blk_drew ?_ | refine blk_alloc ?_ _)); refine blk_put (cs := #[.int .i64 a0, .int .i64 a1, .int .i64 0]) ?_ 2 _ rfl; (with_reducible repeat (first | refine blk_drewN ?_ _ | refine blk_drew ?_ | refine blk_alloc ?_ _)); refine blk_put (cs := #[.int .i64 a0, .int .i64 0, .int .i64 0]) ?_ 1 _ rfl; (with_reducible repeat (first | refine blk_drewN ?_ _ | refine blk_drew ?_ | refine blk_alloc ?_ _)); refine blk_put (cs := #[.int .i64 0, .int .i64 0, .int .i64 0]) ?_ 0 _ rfl; (with_reducible repeat (first | refine blk_drewN ?_ _ | refine blk_drew ?_ | refine blk_alloc ?_ _)); exact BK128.out) Tryd.underlying30 rfl (by kernel_rfl)) rfl ?_
 exact ⟨by first | rfl | (simp [errW_none, errW_some] <;> rfl) | (simp [*, errW_none, errW_some] <;> rfl), kB1 HB GE128⟩
-- NOT PRINTED: function 10 (thicketref08_head)
-- NOT PRINTED: function 47 (math_Float64bits)
/-! ### thicketref08_cats: function 51 -/
def thicketref08_cats.l0 : Nat → List Int → Int → Option (Bool)
 | 0, _, _ => none
 | k + 1, x0, x3 => if x3 < (x0.length : Int) then (if 0 ≤ x3 then (if (rd x0 x3) < 0 then (some false) else (if (rd x0 x3) ≥ 1024 then (some false) else (if x3 > 0 then (if 0 ≤ (wrap64 (x3 - 1)) then (if (wrap64 (x3 - 1)) < (x0.length : Int) then (if (rd x0 x3) ≤ (rd x0 (wrap64 (x3 - 1))) then (some false) else (thicketref08_cats.l0 k x0 (wrap64 (x3 + 1)))) else (none)) else (none)) else (thicketref08_cats.l0 k x0 (wrap64 (x3 + 1)))))) else (none)) else (some (decide ((x0.length : Int) > 0)))
def thicketref08_cats.f (k : Nat) (l0 : List Int) : Option (Bool) := thicketref08_cats.l0 k l0 0
theorem thicketref08_cats.mono_l : ∀ k, (∀ y0 y1, LeO (thicketref08_cats.l0 k y0 y1) (thicketref08_cats.l0 (k + 1) y0 y1))
 | 0 => fun _ _ r h => by simp [thicketref08_cats.l0] at h
 | k + 1 => by
  have ih0 := thicketref08_cats.mono_l k
  ·intro y0 y1
   unfold thicketref08_cats.l0
   repeat' first
   | (with_reducible exact ih0 _ _)
   | (with_reducible exact LeO.refl _)
   | (with_reducible exact LeO.none _)
   | (with_reducible refine LeO.ite ?_ ?_)
   | (with_reducible refine LeO.bind ?_ (fun _ => ?_))
   | exact ih0 _ _
   | exact LeO.none _
   | refine LeO.ite ?_ ?_
   | refine LeO.bind ?_ (fun _ => ?_)
theorem thicketref08_cats.mono : ∀ a0 k, LeO (thicketref08_cats.f k a0) (thicketref08_cats.f (k + 1) a0) := by
 intro a0 k
 have ih0 := thicketref08_cats.mono_l k
 unfold thicketref08_cats.f
 repeat' first
   | (with_reducible exact ih0 _ _)
   | (with_reducible exact LeO.refl _)
   | (with_reducible exact LeO.none _)
   | (with_reducible refine LeO.ite ?_ ?_)
   | (with_reducible refine LeO.bind ?_ (fun _ => ?_))
   | exact ih0 _ _
   | exact LeO.none _
   | refine LeO.ite ?_ ?_
   | refine LeO.bind ?_ (fun _ => ?_)
set_option maxHeartbeats 8000000 in
set_option maxRecDepth 100000 in
theorem thicketref08_cats.calls (k : Nat) (A0 : Option Addr) (c0 : Nat) (l0 : List Int) (r : Bool) (w : World) (hr0 : Kd.C (Kd.int .i64) w A0 l0.length l0) (hc0 : l0.length ≤ c0) (h : thicketref08_cats.f k l0 = some r) :
  Calls Tryd.prog 51 #[.slice A0 l0.length c0] w fun e w' => e = .returned (.bool r) ∧ Drawn0 w w' := by
 have HR0 := Aside0.mk hr0
 have HC0 := Aside0.mk hc0
 clear hr0 hc0
 have H : (thicketref08_cats.l0 k l0 0) = some r := h
 clear h
 have H' := Aside0.mk H
 clear H
 go_enter Tryd.func51, Tryd.ntmps51
 go_wp2
 repeat (go_quiet (fail); try go_wp2)
 go_loopg [3] k (fun kq v3 w' => ∃ (x3_1 : Int), v3 = .int .i64 x3_1 ∧ Aside0 (thicketref08_cats.l0 kq l0 x3_1 = some r) ∧ Aside0 (kq ≤ k) ∧ Drawn0 w w')
 case atStart => exact ⟨(0), kr, H', ⟨Nat.le_refl _⟩, by repeat (first | exact Drawn0.refl _ | apply Drawn0.step)⟩
 case round =>
  clear H'
  obtain ⟨x3_1, rfl, HA, HK1, ⟨m1, rfl⟩⟩ := hrel
  cases gk with
  | zero => exact absurd HA.out (by simp [thicketref08_cats.l0])
  | succ k1 =>
   have H := HA.out
   clear HA
   simp only [thicketref08_cats.l0] at H
   by_cases c2 : x3_1 < (l0.length : Int)
   ·rw [if_pos c2] at H
    have c2b0 : decide (x3_1 < (l0.length : Int)) = true := decide_eq_true c2
    clear c2
    by_cases c3 : 0 ≤ x3_1
    ·rw [if_pos c3] at H
     have c3b0 : decide (0 ≤ x3_1) = true := decide_eq_true c3
     clear c3
     by_cases c4 : (rd l0 x3_1) < 0
     ·rw [if_pos c4] at H
      have c4b0 : decide ((rd l0 x3_1) < 0) = true := decide_eq_true c4
      clear c4
      obtain rfl := Option.some.inj H
      have p140 : 0 ≤ (x3_1 : Int) := of_decide_eq_true ka
      have q140 : x3_1 < (l0.length : Int) := of_decide_eq_true ka
      obtain ⟨ad140, e140, hx140_0⟩ := Kd.at_int HR0.out x3_1 p140 q140
      cases e140
      replace p140 := eq_true p140
      replace q140 := eq_true q140
      go_wp2
      repeat (go_quiet (fail); try go_wp2)
      go_ret
      exact ⟨by first | rfl | (simp; done) | (simp [*]; done), by repeat (first | exact Drawn0.refl _ | apply Drawn0.step)⟩
     ·rw [if_neg c4] at H
      have c4b0 : decide ((rd l0 x3_1) < 0) = false := decide_eq_false c4
      clear c4
      by_cases c5 : (rd l0 x3_1) ≥ 1024
      ·rw [if_pos c5] at H
       have c5b0 : decide (1024 ≤ (rd l0 x3_1)) = true := decide_eq_true c5
       clear c5
       obtain rfl := Option.some.inj H
       have p140 : 0 ≤ (x3_1 : Int) := of_decide_eq_true ka
       have q140 : x3_1 < (l0.length : Int) := of_decide_eq_true ka
       obtain ⟨ad140, e140, hx140_0⟩ := Kd.at_int HR0.out x3_1 p140 q140
       cases e140
       replace p140 := eq_true p140
       replace q140 := eq_true q140
       have p141 : 0 ≤ (x3_1 : Int) := of_decide_eq_true ka
       have q141 : x3_1 < (l0.length : Int) := of_decide_eq_true ka
       obtain ⟨ad141, e141, hx141_0⟩ := Kd.at_int HR0.out x3_1 p141 q141
       obtain rfl : ad140 = ad141 := (by injection e141)
       replace p141 := eq_true p141
       replace q141 := eq_true q141
       go_wp2
       repeat (go_quiet (fail); try go_wp2)
       go_ret
       exact ⟨by first | rfl | (simp; done) | (simp [*]; done), by repeat (first | exact Drawn0.refl _ | apply Drawn0.step)⟩
      ·rw [if_neg c5] at H
       have c5b0 : decide (1024 ≤ (rd l0 x3_1)) = false := decide_eq_false c5
       clear c5
       by_cases c6 : x3_1 > 0
       ·rw [if_pos c6] at H
        have c6b0 : decide (0 < x3_1) = true := decide_eq_true c6
        clear c6
        obtain ⟨ji7, hji7⟩ : ∃ j_ : Int, (wrap64 (x3_1 - 1)) = j_ := ⟨_, rfl⟩
        replace H : (if 0 ≤ (ji7) then (if (ji7) < (l0.length : Int) then (if (rd l0 x3_1) ≤ (rd l0 (ji7)) then (some false) else (thicketref08_cats.l0 k1 l0 (wrap64 (x3_1 + 1)))) else (none)) else (none)) = some r := by first | (rw [hji7] at H; exact H) | (simp only [hji7] at H ⊢; exact H)
        have hji7w : (IntKind.i64.wrap (x3_1 - 1)) = ji7 := (i64_w _).trans hji7
        by_cases c8 : 0 ≤ (ji7)
        ·rw [if_pos c8] at H
         have c8b0 : decide (0 ≤ (ji7)) = true := decide_eq_true c8
         clear c8
         by_cases c9 : (ji7) < (l0.length : Int)
         ·rw [if_pos c9] at H
          have c9b0 : decide ((ji7) < (l0.length : Int)) = true := decide_eq_true c9
          clear c9
          by_cases c10 : (rd l0 x3_1) ≤ (rd l0 (ji7))
          ·rw [if_pos c10] at H
           have c10b0 : decide ((rd l0 x3_1) ≤ (rd l0 (ji7))) = true := decide_eq_true c10
           clear c10
           obtain rfl := Option.some.inj H
           have p140 : 0 ≤ (x3_1 : Int) := of_decide_eq_true ka
           have q140 : x3_1 < (l0.length : Int) := of_decide_eq_true ka
           obtain ⟨ad140, e140, hx140_0⟩ := Kd.at_int HR0.out x3_1 p140 q140
           cases e140
           replace p140 := eq_true p140
           replace q140 := eq_true q140
           have p141 : 0 ≤ (x3_1 : Int) := of_decide_eq_true ka
           have q141 : x3_1 < (l0.length : Int) := of_decide_eq_true ka
           obtain ⟨ad141, e141, hx141_0⟩ := Kd.at_int HR0.out x3_1 p141 q141
           obtain rfl : ad140 = ad141 := (by injection e141)
           replace p141 := eq_true p141
           replace q141 := eq_true q141
           have p142 : 0 ≤ (x3_1 : Int) := of_decide_eq_true ka
           have q142 : x3_1 < (l0.length : Int) := of_decide_eq_true ka
           obtain ⟨ad142, e142, hx142_0⟩ := Kd.at_int HR0.out x3_1 p142 q142
           obtain rfl : ad140 = ad142 := (by injection e142)
           replace p142 := eq_true p142
           replace q142 := eq_true q142
           have p143 : 0 ≤ ((ji7) : Int) := of_decide_eq_true ka
           have q143 : (ji7) < (l0.length : Int) := of_decide_eq_true ka
           obtain ⟨ad143, e143, hx143_0⟩ := Kd.at_int HR0.out (ji7) p143 q143
           obtain rfl : ad140 = ad143 := (by injection e143)
           replace p143 := eq_true p143
           replace q143 := eq_true q143
           go_wp2
           repeat (go_quiet (fail); try go_wp2)
           go_ret
           exact ⟨by first | rfl | (simp; done) | (simp only [← hji7] <;> (first | rfl | simp)) | (simp [*]; done), by repeat (first | exact Drawn0.refl _ | apply Drawn0.step)⟩
          ·rw [if_neg c10] at H
           have c10b0 : decide ((rd l0 x3_1) ≤ (rd l0 (ji7))) = false := decide_eq_false c10
           clear c10
           have H' := Aside0.mk H
           clear H
           have p140 : 0 ≤ (x3_1 : Int) := of_decide_eq_true ka
           have q140 : x3_1 < (l0.length : Int) := of_decide_eq_true ka
           obtain ⟨ad140, e140, hx140_0⟩ := Kd.at_int HR0.out x3_1 p140 q140
           cases e140
           replace p140 := eq_true p140
           replace q140 := eq_true q140
           have p141 : 0 ≤ (x3_1 : Int) := of_decide_eq_true ka
           have q141 : x3_1 < (l0.length : Int) := of_decide_eq_true ka
           obtain ⟨ad141, e141, hx141_0⟩ := Kd.at_int HR0.out x3_1 p141 q141
           obtain rfl : ad140 = ad141 := (by injection e141)
           replace p141 := eq_true p141
           replace q141 := eq_true q141
           have p142 : 0 ≤ (x3_1 : Int) := of_decide_eq_true ka
           have q142 : x3_1 < (l0.length : Int) := of_decide_eq_true ka
           obtain ⟨ad142, e142, hx142_0⟩ := Kd.at_int HR0.out x3_1 p142 q142
           obtain rfl : ad140 = ad142 := (by injection e142)
           replace p142 := eq_true p142
           replace q142 := eq_true q142
           have p143 : 0 ≤ ((ji7) : Int) := of_decide_eq_true ka
           have q143 : (ji7) < (l0.length : Int) := of_decide_eq_true ka
           obtain ⟨ad143, e143, hx143_0⟩ := Kd.at_int HR0.out (ji7) p143 q143
           obtain rfl : ad140 = ad143 := (by injection e143)
           replace p143 := eq_true p143
           replace q143 := eq_true q143
           go_wp2
           repeat (go_quiet (fail); try go_wp2)
           go_roundg k1
           case measure => have := HK1.out; omega
           case rel => exact ⟨(wrap64 (x3_1 + 1)), kr, H', ⟨by have := HK1.out; omega⟩, by repeat (first | exact Drawn0.refl _ | apply Drawn0.step)⟩
         ·rw [if_neg c9] at H
          exact absurd H (by simp)
        ·rw [if_neg c8] at H
         exact absurd H (by simp)
       ·rw [if_neg c6] at H
        have c6b0 : decide (0 < x3_1) = false := decide_eq_false c6
        clear c6
        have H' := Aside0.mk H
        clear H
        have p140 : 0 ≤ (x3_1 : Int) := of_decide_eq_true ka
        have q140 : x3_1 < (l0.length : Int) := of_decide_eq_true ka
        obtain ⟨ad140, e140, hx140_0⟩ := Kd.at_int HR0.out x3_1 p140 q140
        cases e140
        replace p140 := eq_true p140
        replace q140 := eq_true q140
        have p141 : 0 ≤ (x3_1 : Int) := of_decide_eq_true ka
        have q141 : x3_1 < (l0.length : Int) := of_decide_eq_true ka
        obtain ⟨ad141, e141, hx141_0⟩ := Kd.at_int HR0.out x3_1 p141 q141
        obtain rfl : ad140 = ad141 := (by injection e141)
        replace p141 := eq_true p141
        replace q141 := eq_true q141
        go_wp2
        repeat (go_quiet (fail); try go_wp2)
        go_roundg k1
        case measure => have := HK1.out; omega
        case rel => exact ⟨(wrap64 (x3_1 + 1)), kr, H', ⟨by have := HK1.out; omega⟩, by repeat (first | exact Drawn0.refl _ | apply Drawn0.step)⟩
    ·rw [if_neg c3] at H
     exact absurd H (by simp)
   ·rw [if_neg c2] at H
    have c2b0 : decide (x3_1 < (l0.length : Int)) = false := decide_eq_false c2
    clear c2
    obtain rfl := Option.some.inj H
    go_wp2
    repeat (go_quiet (fail); try go_wp2)
    go_ret
    exact ⟨by first | rfl | (simp; done) | (simp [*]; done), by repeat (first | exact Drawn0.refl _ | apply Drawn0.step)⟩
/-! by hand -/
def thicketref08_node.tail (a0_5 a0_6 a0_7 a2 : Int) : Int := if a0_5 = 1 ∨ a0_5 = 2 then (if a0_6 < 1 ∨ a2 ≤ a0_6 ∨ a0_7 < 1 ∨ a2 ≤ a0_7 then 19 else 0) else 18
def thicketref08_node.f (k : Nat) (a0_0 : Int) (a0_1 : Int) (a0_2 : Int) (a0_3 : Nat) (l0_4 : List Int) (a0_5 : Int) (a0_6 : Int) (a0_7 : Int) (a1 : Int) (a2 : Int) : Option (Int) :=
 if a0_0 = 1 then some (if a0_2 = 0 ∧ f64bits a0_3 = 0 ∧ l0_4 = [] ∧ a0_5 = 0 ∧ a0_6 = 0 ∧ a0_7 = 0 then 0 else 14)
 else if a0_0 = 2 then some (if a0_1 = 0 ∧ l0_4 = [] then (if a0_2 < 0 ∨ a1 ≤ a0_2 then 15 else if 9218868437227405312 < Go.bits .andNot .u64 (f64bits a0_3) 9223372036854775808 then 16 else thicketref08_node.tail a0_5 a0_6 a0_7 a2) else 14)
 else if a0_0 = 3 then (if a0_1 = 0 ∧ f64bits a0_3 = 0 then (if a0_2 < 0 ∨ a1 ≤ a0_2 then some 15 else (thicketref08_cats.f k l0_4).bind fun b => some (if b = true then thicketref08_node.tail a0_5 a0_6 a0_7 a2 else 17)) else some 14)
 else some 13
theorem thicketref08_node.mono : ∀ a0_0 a0_1 a0_2 a0_3 a0_4 a0_5 a0_6 a0_7 a1 a2 k, LeO (thicketref08_node.f k a0_0 a0_1 a0_2 a0_3 a0_4 a0_5 a0_6 a0_7 a1 a2) (thicketref08_node.f (k + 1) a0_0 a0_1 a0_2 a0_3 a0_4 a0_5 a0_6 a0_7 a1 a2) := by
 intro a0_0 a0_1 a0_2 a0_3 a0_4 a0_5 a0_6 a0_7 a1 a2 k
 unfold thicketref08_node.f
 repeat' first | exact LeO.refl _ | exact thicketref08_cats.mono _ _ | refine LeO.ite ?_ ?_ | refine LeO.bind ?_ (fun _ => ?_)
set_option maxHeartbeats 8000000 in
set_option maxRecDepth 100000 in
theorem thicketref08_node.calls1 (k : Nat) (a0_0 : Int) (a0_1 : Int) (a0_2 : Int) (a0_3 : Nat) (A0_4 : Option Addr) (c0_4 : Nat) (l0_4 : List Int) (a0_5 : Int) (a0_6 : Int) (a0_7 : Int) (a1 : Int) (a2 : Int) (r : Int) (w : World) (c1 : (a0_0 == 1) = true) (c2 : (a0_0 == 2) = false) (c3 : (a0_0 == 3) = false) (H : Aside0 ((if a0_2 = 0 ∧ f64bits a0_3 = 0 ∧ l0_4 = [] ∧ a0_5 = 0 ∧ a0_6 = 0 ∧ a0_7 = 0 then 0 else 14) = r)) :
 Calls Tryd.prog 31 #[.agg #[.int .u8 a0_0, .int .i64 a0_1, .int .i64 a0_2, .float .f64 a0_3, .slice A0_4 l0_4.length c0_4, .int .u8 a0_5, .int .i64 a0_6, .int .i64 a0_7], .int .i64 a1, .int .i64 a2] w fun e w' => e = .returned (.int .i64 r) ∧ Below w.heap.size w w' := by
 have HB := Aside0.mk (Below.refl w.heap.size w)
 go_enter Tryd.func31, Tryd.ntmps31
 go_wp2_with (first | ((with_reducible refine gate_dst (N := 3) rfl ?_); (try (refine gate_guard (by rfl) ?_; dsimp only)); refine box_event ?hg (N := 3) ?hd (cs := #[.int .u8 a0_0, .int .i64 a0_1, .int .i64 a0_2, .float .f64 a0_3, .slice A0_4 l0_4.length c0_4, .int .u8 a0_5, .int .i64 a0_6, .int .i64 a0_7]) (t := 66) ?hr ?_; (case hd => rfl); (case hg => rfl); (case hr => first | (go_simp; done) | (go_simp; rfl)); intro gb hg w1 hbox hb; have n0_ := Aside0.mk (below_step (kB0 HB) hb); have BK := Aside0.mk hbox; clear HB; have HB := n0_; clear n0_ hb hbox hg; have hz := blk8 (w := w1) BK.out))
 all_goals (first | (go_ret; refine ⟨?_, kB0 HB⟩; have h := H.out; first | (simp_all [thicketref08_node.tail]; done) | (simp_all [thicketref08_node.tail]; omega)) | (exfalso; first | (simp_all; done) | (simp_all; omega)))
set_option maxHeartbeats 8000000 in
set_option maxRecDepth 100000 in
theorem thicketref08_node.calls2 (k : Nat) (a0_0 : Int) (a0_1 : Int) (a0_2 : Int) (a0_3 : Nat) (A0_4 : Option Addr) (c0_4 : Nat) (l0_4 : List Int) (a0_5 : Int) (a0_6 : Int) (a0_7 : Int) (a1 : Int) (a2 : Int) (r : Int) (w : World) (c1 : (a0_0 == 1) = false) (c2 : (a0_0 == 2) = true) (c3 : (a0_0 == 3) = false) (H : Aside0 ((if a0_1 = 0 ∧ l0_4 = [] then (if a0_2 < 0 ∨ a1 ≤ a0_2 then 15 else if 9218868437227405312 < Go.bits .andNot .u64 (f64bits a0_3) 9223372036854775808 then 16 else thicketref08_node.tail a0_5 a0_6 a0_7 a2) else 14) = r)) :
 Calls Tryd.prog 31 #[.agg #[.int .u8 a0_0, .int .i64 a0_1, .int .i64 a0_2, .float .f64 a0_3, .slice A0_4 l0_4.length c0_4, .int .u8 a0_5, .int .i64 a0_6, .int .i64 a0_7], .int .i64 a1, .int .i64 a2] w fun e w' => e = .returned (.int .i64 r) ∧ Below w.heap.size w w' := by
 have HB := Aside0.mk (Below.refl w.heap.size w)
 go_enter Tryd.func31, Tryd.ntmps31
 go_wp2_with (first | ((with_reducible refine gate_dst (N := 3) rfl ?_); (try (refine gate_guard (by rfl) ?_; dsimp only)); refine box_event ?hg (N := 3) ?hd (cs := #[.int .u8 a0_0, .int .i64 a0_1, .int .i64 a0_2, .float .f64 a0_3, .slice A0_4 l0_4.length c0_4, .int .u8 a0_5, .int .i64 a0_6, .int .i64 a0_7]) (t := 66) ?hr ?_; (case hd => rfl); (case hg => rfl); (case hr => first | (go_simp; done) | (go_simp; rfl)); intro gb hg w1 hbox hb; have n0_ := Aside0.mk (below_step (kB0 HB) hb); have BK := Aside0.mk hbox; clear HB; have HB := n0_; clear n0_ hb hbox hg; have hz := blk8 (w := w1) BK.out))
 all_goals (first | (go_ret; refine ⟨?_, kB0 HB⟩; have h := H.out; first | (simp_all [thicketref08_node.tail]; done) | (simp_all [thicketref08_node.tail]; omega)) | (exfalso; first | (simp_all; done) | (simp_all; omega)))
set_option maxHeartbeats 8000000 in
set_option maxRecDepth 100000 in
theorem thicketref08_node.calls3 (k : Nat) (a0_0 : Int) (a0_1 : Int) (a0_2 : Int) (a0_3 : Nat) (A0_4 : Option Addr) (c0_4 : Nat) (l0_4 : List Int) (a0_5 : Int) (a0_6 : Int) (a0_7 : Int) (a1 : Int) (a2 : Int) (r : Int) (w : World) (hr0_4 : Aside0 (Kd.C (Kd.int .i64) w A0_4 l0_4.length l0_4)) (hc0_4 : Aside0 (l0_4.length ≤ c0_4)) (c1 : (a0_0 == 1) = false) (c2 : (a0_0 == 2) = false) (c3 : (a0_0 == 3) = true) (b : Bool) (hb0 : Aside0 (thicketref08_cats.f k l0_4 = some b)) (H : Aside0 ((if a0_1 = 0 ∧ f64bits a0_3 = 0 then (if a0_2 < 0 ∨ a1 ≤ a0_2 then 15 else if b = true then thicketref08_node.tail a0_5 a0_6 a0_7 a2 else 17) else 14) = r)) :
 Calls Tryd.prog 31 #[.agg #[.int .u8 a0_0, .int .i64 a0_1, .int .i64 a0_2, .float .f64 a0_3, .slice A0_4 l0_4.length c0_4, .int .u8 a0_5, .int .i64 a0_6, .int .i64 a0_7], .int .i64 a1, .int .i64 a2] w fun e w' => e = .returned (.int .i64 r) ∧ Below w.heap.size w w' := by
 have HB := Aside0.mk (Below.refl w.heap.size w)
 go_enter Tryd.func31, Tryd.ntmps31
 go_wp2_with (first | ((with_reducible refine gate_dst (N := 3) rfl ?_); (try (refine gate_guard (by rfl) ?_; dsimp only)); refine box_event ?hg (N := 3) ?hd (cs := #[.int .u8 a0_0, .int .i64 a0_1, .int .i64 a0_2, .float .f64 a0_3, .slice A0_4 l0_4.length c0_4, .int .u8 a0_5, .int .i64 a0_6, .int .i64 a0_7]) (t := 66) ?hr ?_; (case hd => rfl); (case hg => rfl); (case hr => first | (go_simp; done) | (go_simp; rfl)); intro gb hg w1 hbox hb; have n0_ := Aside0.mk (below_step (kB0 HB) hb); have BK := Aside0.mk hbox; clear HB; have HB := n0_; clear n0_ hb hbox hg; have hz := blk8 (w := w1) BK.out) | (go_at_call 51; refine (thicketref08_cats.calls k _ _ l0_4 b _ (Kd.C_below hr0_4.out (kB0 HB)) hc0_4.out hb0.out).mono ?_; rintro e w2 ⟨rfl, ⟨nd, rfl⟩⟩))
 all_goals (first | (go_ret; refine ⟨?_, kB0 HB⟩; have h := H.out; first | (simp_all [thicketref08_node.tail]; done) | (simp_all [thicketref08_node.tail]; omega)) | (exfalso; first | (simp_all; done) | (simp_all; omega)))
set_option maxHeartbeats 8000000 in
set_option maxRecDepth 100000 in
theorem thicketref08_node.calls3x (k : Nat) (a0_0 : Int) (a0_1 : Int) (a0_2 : Int) (a0_3 : Nat) (A0_4 : Option Addr) (c0_4 : Nat) (l0_4 : List Int) (a0_5 : Int) (a0_6 : Int) (a0_7 : Int) (a1 : Int) (a2 : Int) (r : Int) (w : World) (c1 : (a0_0 == 1) = false) (c2 : (a0_0 == 2) = false) (c3 : (a0_0 == 3) = true) (hx : ¬ (a0_1 = 0 ∧ f64bits a0_3 = 0 ∧ ¬ a0_2 < 0 ∧ ¬ a1 ≤ a0_2)) (H : Aside0 ((if a0_1 = 0 ∧ f64bits a0_3 = 0 then 15 else 14) = r)) :
 Calls Tryd.prog 31 #[.agg #[.int .u8 a0_0, .int .i64 a0_1, .int .i64 a0_2, .float .f64 a0_3, .slice A0_4 l0_4.length c0_4, .int .u8 a0_5, .int .i64 a0_6, .int .i64 a0_7], .int .i64 a1, .int .i64 a2] w fun e w' => e = .returned (.int .i64 r) ∧ Below w.heap.size w w' := by
 have HB := Aside0.mk (Below.refl w.heap.size w)
 go_enter Tryd.func31, Tryd.ntmps31
 go_wp2_with (first | ((with_reducible refine gate_dst (N := 3) rfl ?_); (try (refine gate_guard (by rfl) ?_; dsimp only)); refine box_event ?hg (N := 3) ?hd (cs := #[.int .u8 a0_0, .int .i64 a0_1, .int .i64 a0_2, .float .f64 a0_3, .slice A0_4 l0_4.length c0_4, .int .u8 a0_5, .int .i64 a0_6, .int .i64 a0_7]) (t := 66) ?hr ?_; (case hd => rfl); (case hg => rfl); (case hr => first | (go_simp; done) | (go_simp; rfl)); intro gb hg w1 hbox hb; have n0_ := Aside0.mk (below_step (kB0 HB) hb); have BK := Aside0.mk hbox; clear HB; have HB := n0_; clear n0_ hb hbox hg; have hz := blk8 (w := w1) BK.out))
 all_goals (first | (go_ret; refine ⟨?_, kB0 HB⟩; have h := H.out; first | (simp_all [thicketref08_node.tail]; done) | (simp_all [thicketref08_node.tail]; omega)) | (exfalso; first | (simp_all; done) | (simp_all; omega)))
set_option maxHeartbeats 8000000 in
set_option maxRecDepth 100000 in
theorem thicketref08_node.calls0 (k : Nat) (a0_0 : Int) (a0_1 : Int) (a0_2 : Int) (a0_3 : Nat) (A0_4 : Option Addr) (c0_4 : Nat) (l0_4 : List Int) (a0_5 : Int) (a0_6 : Int) (a0_7 : Int) (a1 : Int) (a2 : Int) (r : Int) (w : World) (c1 : (a0_0 == 1) = false) (c2 : (a0_0 == 2) = false) (c3 : (a0_0 == 3) = false) (H : Aside0 (13 = r)) :
 Calls Tryd.prog 31 #[.agg #[.int .u8 a0_0, .int .i64 a0_1, .int .i64 a0_2, .float .f64 a0_3, .slice A0_4 l0_4.length c0_4, .int .u8 a0_5, .int .i64 a0_6, .int .i64 a0_7], .int .i64 a1, .int .i64 a2] w fun e w' => e = .returned (.int .i64 r) ∧ Below w.heap.size w w' := by
 have HB := Aside0.mk (Below.refl w.heap.size w)
 go_enter Tryd.func31, Tryd.ntmps31
 go_wp2_with (first | ((with_reducible refine gate_dst (N := 3) rfl ?_); (try (refine gate_guard (by rfl) ?_; dsimp only)); refine box_event ?hg (N := 3) ?hd (cs := #[.int .u8 a0_0, .int .i64 a0_1, .int .i64 a0_2, .float .f64 a0_3, .slice A0_4 l0_4.length c0_4, .int .u8 a0_5, .int .i64 a0_6, .int .i64 a0_7]) (t := 66) ?hr ?_; (case hd => rfl); (case hg => rfl); (case hr => first | (go_simp; done) | (go_simp; rfl)); intro gb hg w1 hbox hb; have n0_ := Aside0.mk (below_step (kB0 HB) hb); have BK := Aside0.mk hbox; clear HB; have HB := n0_; clear n0_ hb hbox hg; have hz := blk8 (w := w1) BK.out))
 all_goals (first | (go_ret; refine ⟨?_, kB0 HB⟩; have h := H.out; first | (simp_all [thicketref08_node.tail]; done) | (simp_all [thicketref08_node.tail]; omega)) | (exfalso; first | (simp_all; done) | (simp_all; omega)))
theorem thicketref08_node.calls (k : Nat) (a0_0 : Int) (a0_1 : Int) (a0_2 : Int) (a0_3 : Nat) (A0_4 : Option Addr) (c0_4 : Nat) (l0_4 : List Int) (a0_5 : Int) (a0_6 : Int) (a0_7 : Int) (a1 : Int) (a2 : Int) (r : Int) (w : World) (hr0_4 : Kd.C (Kd.int .i64) w A0_4 l0_4.length l0_4) (hc0_4 : l0_4.length ≤ c0_4) (h : thicketref08_node.f k a0_0 a0_1 a0_2 a0_3 l0_4 a0_5 a0_6 a0_7 a1 a2 = some r) :
 Calls Tryd.prog 31 #[.agg #[.int .u8 a0_0, .int .i64 a0_1, .int .i64 a0_2, .float .f64 a0_3, .slice A0_4 l0_4.length c0_4, .int .u8 a0_5, .int .i64 a0_6, .int .i64 a0_7], .int .i64 a1, .int .i64 a2] w fun e w' => e = .returned (.int .i64 r) ∧ Below w.heap.size w w' := by
 unfold thicketref08_node.f at h
 by_cases e1 : a0_0 = 1
 ·rw [if_pos e1] at h
  exact thicketref08_node.calls1 k _ _ _ _ _ _ _ _ _ _ _ _ r w (by simp [e1]) (by simp [e1]) (by simp [e1]) ⟨Option.some.inj h⟩
 ·rw [if_neg e1] at h
  by_cases e2 : a0_0 = 2
  ·rw [if_pos e2] at h
   exact thicketref08_node.calls2 k _ _ _ _ _ _ _ _ _ _ _ _ r w (by simp [e2]) (by simp [e2]) (by simp [e2]) ⟨Option.some.inj h⟩
  ·rw [if_neg e2] at h
   by_cases e3 : a0_0 = 3
   ·rw [if_pos e3] at h
    by_cases g : a0_1 = 0 ∧ f64bits a0_3 = 0 ∧ ¬ a0_2 < 0 ∧ ¬ a1 ≤ a0_2
    ·obtain ⟨g1, g2, g3, g4⟩ := g
     rw [if_pos ⟨g1, g2⟩, if_neg (by omega)] at h
     obtain ⟨b, hb, h⟩ := Option.bind_eq_some_iff.mp h
     refine thicketref08_node.calls3 k _ _ _ _ _ _ _ _ _ _ _ _ r w ⟨hr0_4⟩ ⟨hc0_4⟩ (by simp [e3]) (by simp [e3]) (by simp [e3]) b ⟨hb⟩ ⟨?_⟩
     rw [if_pos ⟨g1, g2⟩, if_neg (by omega)]
     exact Option.some.inj h
    ·refine thicketref08_node.calls3x k _ _ _ _ _ _ _ _ _ _ _ _ r w (by simp [e3]) (by simp [e3]) (by simp [e3]) g ⟨?_⟩
     by_cases q : a0_1 = 0 ∧ f64bits a0_3 = 0
     ·rw [if_pos q] at h ⊢
      rw [if_pos (by omega)] at h
      exact Option.some.inj h
     ·rw [if_neg q] at h ⊢
      exact Option.some.inj h
   ·rw [if_neg e3] at h
    exact thicketref08_node.calls0 k _ _ _ _ _ _ _ _ _ _ _ _ r w (by simp [e1]) (by simp [e2]) (by simp [e3]) ⟨Option.some.inj h⟩
/-! ### thicketref07_nan: function 64 -/
def thicketref07_nan.f (a0 : Nat) : Option (Bool) := some (!(feq a0 a0))
set_option maxHeartbeats 8000000 in
set_option maxRecDepth 100000 in
theorem thicketref07_nan.calls (a0 : Nat) (r : Bool) (w : World) (h : thicketref07_nan.f a0 = some r) :
  Calls Tryd.prog 64 #[.float .f64 a0] w fun e w' => e = .returned (.bool r) ∧ Drawn0 w w' := by
 have H : (some (!(feq a0 a0))) = some r := h
 clear h
 obtain rfl := Option.some.inj H
 go_enter Tryd.func64, Tryd.ntmps64
 go_wp2
 go_ret
 exact ⟨by first | rfl | (simp; done) | (simp [*]; done), by repeat (first | exact Drawn0.refl _ | apply Drawn0.step)⟩
/-! ### thicketref07_Cats: function 65 -/
def thicketref07_Cats.l0 : Nat → List Int → List Int → Int → Int → Option (Bool)
 | 0, _, _, _, _ => none
 | k + 1, x0, x5, x6, x7 => if x7 < x6 then (if 0 ≤ x7 then (if x7 < (x5.length : Int) then (if (rd x5 x7) < 0 then (some false) else (if (rd x5 x7) ≥ 1024 then (some false) else (if x7 > 0 then (if 0 ≤ (wrap64 (x7 - 1)) then (if (wrap64 (x7 - 1)) < (x0.length : Int) then (if (rd x5 x7) ≤ (rd x0 (wrap64 (x7 - 1))) then (some false) else (thicketref07_Cats.l0 k x0 x5 x6 (wrap64 (x7 + 1)))) else (none)) else (none)) else (thicketref07_Cats.l0 k x0 x5 x6 (wrap64 (x7 + 1)))))) else (none)) else (none)) else (some (decide ((x0.length : Int) > 0)))
def thicketref07_Cats.f (k : Nat) (l0 : List Int) : Option (Bool) := thicketref07_Cats.l0 k l0 l0 (l0.length : Int) 0
theorem thicketref07_Cats.mono_l : ∀ k, (∀ y0 y1 y2 y3, LeO (thicketref07_Cats.l0 k y0 y1 y2 y3) (thicketref07_Cats.l0 (k + 1) y0 y1 y2 y3))
 | 0 => fun _ _ _ _ r h => by simp [thicketref07_Cats.l0] at h
 | k + 1 => by
  have ih0 := thicketref07_Cats.mono_l k
  ·intro y0 y1 y2 y3
   unfold thicketref07_Cats.l0
   repeat' first
   | (with_reducible exact ih0 _ _ _ _)
   | (with_reducible exact LeO.refl _)
   | (with_reducible exact LeO.none _)
   | (with_reducible refine LeO.ite ?_ ?_)
   | (with_reducible refine LeO.bind ?_ (fun _ => ?_))
   | exact ih0 _ _ _ _
   | exact LeO.none _
   | refine LeO.ite ?_ ?_
   | refine LeO.bind ?_ (fun _ => ?_)
theorem thicketref07_Cats.mono : ∀ a0 k, LeO (thicketref07_Cats.f k a0) (thicketref07_Cats.f (k + 1) a0) := by
 intro a0 k
 have ih0 := thicketref07_Cats.mono_l k
 unfold thicketref07_Cats.f
 repeat' first
   | (with_reducible exact ih0 _ _ _ _)
   | (with_reducible exact LeO.refl _)
   | (with_reducible exact LeO.none _)
   | (with_reducible refine LeO.ite ?_ ?_)
   | (with_reducible refine LeO.bind ?_ (fun _ => ?_))
   | exact ih0 _ _ _ _
   | exact LeO.none _
   | refine LeO.ite ?_ ?_
   | refine LeO.bind ?_ (fun _ => ?_)
set_option maxHeartbeats 8000000 in
set_option maxRecDepth 100000 in
theorem thicketref07_Cats.calls (k : Nat) (A0 : Option Addr) (c0 : Nat) (l0 : List Int) (r : Bool) (w : World) (hr0 : Kd.C (Kd.int .i64) w A0 l0.length l0) (hc0 : l0.length ≤ c0) (h : thicketref07_Cats.f k l0 = some r) :
  Calls Tryd.prog 65 #[.slice A0 l0.length c0] w fun e w' => e = .returned (.bool r) ∧ Drawn0 w w' := by
 have HR0 := Aside0.mk hr0
 have HC0 := Aside0.mk hc0
 clear hr0 hc0
 have H : (thicketref07_Cats.l0 k l0 l0 (l0.length : Int) 0) = some r := h
 clear h
 have H' := Aside0.mk H
 clear H
 go_enter Tryd.func65, Tryd.ntmps65
 go_wp2
 go_loopg [7] k (fun kq v7 w' => ∃ (x7_1 : Int), v7 = .int .i64 x7_1 ∧ Aside0 (thicketref07_Cats.l0 kq l0 l0 (l0.length : Int) x7_1 = some r) ∧ Aside0 (kq ≤ k) ∧ Drawn0 w w')
 case atStart => exact ⟨(0), kr, H', ⟨Nat.le_refl _⟩, by repeat (first | exact Drawn0.refl _ | apply Drawn0.step)⟩
 case round =>
  clear H'
  obtain ⟨x7_1, rfl, HA, HK1, ⟨m1, rfl⟩⟩ := hrel
  cases gk with
  | zero => exact absurd HA.out (by simp [thicketref07_Cats.l0])
  | succ k1 =>
   have H := HA.out
   clear HA
   simp only [thicketref07_Cats.l0] at H
   by_cases c2 : x7_1 < (l0.length : Int)
   ·rw [if_pos c2] at H
    have c2b0 : decide (x7_1 < (l0.length : Int)) = true := decide_eq_true c2
    clear c2
    by_cases c3 : 0 ≤ x7_1
    ·rw [if_pos c3] at H
     have c3b0 : decide (0 ≤ x7_1) = true := decide_eq_true c3
     clear c3
     by_cases c4 : x7_1 < (l0.length : Int)
     ·rw [if_pos c4] at H
      have c4b0 : decide (x7_1 < (l0.length : Int)) = true := decide_eq_true c4
      clear c4
      by_cases c5 : (rd l0 x7_1) < 0
      ·rw [if_pos c5] at H
       have c5b0 : decide ((rd l0 x7_1) < 0) = true := decide_eq_true c5
       clear c5
       obtain rfl := Option.some.inj H
       have p144 : 0 ≤ (x7_1 : Int) := of_decide_eq_true ka
       have q144 : x7_1 < (l0.length : Int) := of_decide_eq_true ka
       obtain ⟨ad144, e144, hx144_0⟩ := Kd.at_int HR0.out x7_1 p144 q144
       cases e144
       replace p144 := eq_true p144
       replace q144 := eq_true q144
       go_wp2
       go_ret
       exact ⟨by first | rfl | (simp; done) | (simp [*]; done), by repeat (first | exact Drawn0.refl _ | apply Drawn0.step)⟩
      ·rw [if_neg c5] at H
       have c5b0 : decide ((rd l0 x7_1) < 0) = false := decide_eq_false c5
       clear c5
       by_cases c6 : (rd l0 x7_1) ≥ 1024
       ·rw [if_pos c6] at H
        have c6b0 : decide (1024 ≤ (rd l0 x7_1)) = true := decide_eq_true c6
        clear c6
        obtain rfl := Option.some.inj H
        have p144 : 0 ≤ (x7_1 : Int) := of_decide_eq_true ka
        have q144 : x7_1 < (l0.length : Int) := of_decide_eq_true ka
        obtain ⟨ad144, e144, hx144_0⟩ := Kd.at_int HR0.out x7_1 p144 q144
        cases e144
        replace p144 := eq_true p144
        replace q144 := eq_true q144
        go_wp2
        go_ret
        exact ⟨by first | rfl | (simp; done) | (simp [*]; done), by repeat (first | exact Drawn0.refl _ | apply Drawn0.step)⟩
       ·rw [if_neg c6] at H
        have c6b0 : decide (1024 ≤ (rd l0 x7_1)) = false := decide_eq_false c6
        clear c6
        by_cases c7 : x7_1 > 0
        ·rw [if_pos c7] at H
         have c7b0 : decide (0 < x7_1) = true := decide_eq_true c7
         clear c7
         obtain ⟨ji8, hji8⟩ : ∃ j_ : Int, (wrap64 (x7_1 - 1)) = j_ := ⟨_, rfl⟩
         replace H : (if 0 ≤ (ji8) then (if (ji8) < (l0.length : Int) then (if (rd l0 x7_1) ≤ (rd l0 (ji8)) then (some false) else (thicketref07_Cats.l0 k1 l0 l0 (l0.length : Int) (wrap64 (x7_1 + 1)))) else (none)) else (none)) = some r := by first | (rw [hji8] at H; exact H) | (simp only [hji8] at H ⊢; exact H)
         have hji8w : (IntKind.i64.wrap (x7_1 - 1)) = ji8 := (i64_w _).trans hji8
         by_cases c9 : 0 ≤ (ji8)
         ·rw [if_pos c9] at H
          have c9b0 : decide (0 ≤ (ji8)) = true := decide_eq_true c9
          clear c9
          by_cases c10 : (ji8) < (l0.length : Int)
          ·rw [if_pos c10] at H
           have c10b0 : decide ((ji8) < (l0.length : Int)) = true := decide_eq_true c10
           clear c10
           by_cases c11 : (rd l0 x7_1) ≤ (rd l0 (ji8))
           ·rw [if_pos c11] at H
            have c11b0 : decide ((rd l0 x7_1) ≤ (rd l0 (ji8))) = true := decide_eq_true c11
            clear c11
            obtain rfl := Option.some.inj H
            have p144 : 0 ≤ (x7_1 : Int) := of_decide_eq_true ka
            have q144 : x7_1 < (l0.length : Int) := of_decide_eq_true ka
            obtain ⟨ad144, e144, hx144_0⟩ := Kd.at_int HR0.out x7_1 p144 q144
            cases e144
            replace p144 := eq_true p144
            replace q144 := eq_true q144
            have p145 : 0 ≤ ((ji8) : Int) := of_decide_eq_true ka
            have q145 : (ji8) < (l0.length : Int) := of_decide_eq_true ka
            obtain ⟨ad145, e145, hx145_0⟩ := Kd.at_int HR0.out (ji8) p145 q145
            obtain rfl : ad144 = ad145 := (by injection e145)
            replace p145 := eq_true p145
            replace q145 := eq_true q145
            go_wp2
            go_ret
            exact ⟨by first | rfl | (simp; done) | (simp only [← hji8] <;> (first | rfl | simp)) | (simp [*]; done), by repeat (first | exact Drawn0.refl _ | apply Drawn0.step)⟩
           ·rw [if_neg c11] at H
            have c11b0 : decide ((rd l0 x7_1) ≤ (rd l0 (ji8))) = false := decide_eq_false c11
            clear c11
            have H' := Aside0.mk H
            clear H
            have p144 : 0 ≤ (x7_1 : Int) := of_decide_eq_true ka
            have q144 : x7_1 < (l0.length : Int) := of_decide_eq_true ka
            obtain ⟨ad144, e144, hx144_0⟩ := Kd.at_int HR0.out x7_1 p144 q144
            cases e144
            replace p144 := eq_true p144
            replace q144 := eq_true q144
            have p145 : 0 ≤ ((ji8) : Int) := of_decide_eq_true ka
            have q145 : (ji8) < (l0.length : Int) := of_decide_eq_true ka
            obtain ⟨ad145, e145, hx145_0⟩ := Kd.at_int HR0.out (ji8) p145 q145
            obtain rfl : ad144 = ad145 := (by injection e145)
            replace p145 := eq_true p145
            replace q145 := eq_true q145
            go_wp2
            go_roundg k1
            case measure => have := HK1.out; omega
            case rel => exact ⟨(wrap64 (x7_1 + 1)), kr, H', ⟨by have := HK1.out; omega⟩, by repeat (first | exact Drawn0.refl _ | apply Drawn0.step)⟩
          ·rw [if_neg c10] at H
           exact absurd H (by simp)
         ·rw [if_neg c9] at H
          exact absurd H (by simp)
        ·rw [if_neg c7] at H
         have c7b0 : decide (0 < x7_1) = false := decide_eq_false c7
         clear c7
         have H' := Aside0.mk H
         clear H
         have p144 : 0 ≤ (x7_1 : Int) := of_decide_eq_true ka
         have q144 : x7_1 < (l0.length : Int) := of_decide_eq_true ka
         obtain ⟨ad144, e144, hx144_0⟩ := Kd.at_int HR0.out x7_1 p144 q144
         cases e144
         replace p144 := eq_true p144
         replace q144 := eq_true q144
         go_wp2
         go_roundg k1
         case measure => have := HK1.out; omega
         case rel => exact ⟨(wrap64 (x7_1 + 1)), kr, H', ⟨by have := HK1.out; omega⟩, by repeat (first | exact Drawn0.refl _ | apply Drawn0.step)⟩
     ·rw [if_neg c4] at H
      exact absurd H (by simp)
    ·rw [if_neg c3] at H
     exact absurd H (by simp)
   ·rw [if_neg c2] at H
    have c2b0 : decide (x7_1 < (l0.length : Int)) = false := decide_eq_false c2
    clear c2
    obtain rfl := Option.some.inj H
    go_wp2
    go_ret
    exact ⟨by first | rfl | (simp; done) | (simp [*]; done), by repeat (first | exact Drawn0.refl _ | apply Drawn0.step)⟩
end Go.Proofs.YtkemfbocojoagaaDoor.FAll
