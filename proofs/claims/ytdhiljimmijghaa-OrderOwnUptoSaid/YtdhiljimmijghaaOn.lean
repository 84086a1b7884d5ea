/-
  What the printed functions of package order (and the document's) answer: plain facts, for all numbers.
-/
import Derived.Test.YtdhiljimmijghaaEv
import Derived.Test.YtdhiljimmijghaaFAllx
namespace Go.Proofs.Ytdhiljimmijghaa
set_option linter.unusedVariables false
open Go.RowKit Go.Proofs.Ytdhiljimmijghaa.FAll Go.Proofs.YtdhiljimmijghaaW.PrintWords Go.Proofs.YtdhiljimmijghaaW.PrintLast Go.Proofs.YtdhiljimmijghaaW.PrintMore

theorem key_f {a : Nat} (ha : a < 2 ^ 64) : order_Key.f a = some (fkey a) := by
  unfold order_Key.f
  rw [feq_self ha]
  cases h : isNaN a
  · have hm := nan_b h
    rw [if_pos (by rfl)]
    unfold f64bits
    by_cases hs : a < 9223372036854775808
    · rw [if_pos (by omega), wu64 (by omega) (by omega), fkey_p h hs]
    · rw [if_neg (by omega), bits_andNot_sgn a (by omega), wu64 (by omega) (by omega), fkey_n h (by omega)]
      exact congrArg some (by omega)
  · rw [if_neg (by decide), fkey_x h]

theorem cmp_f (x y : Int) : cmp_Compare_uint64.f x y = some (icmp x y) := by
  unfold cmp_Compare_uint64.f cmp_isNaN_uint64.f icmp
  simp only [bne_self_eq_false, Option.bind_some, Bool.false_eq_true, if_false]
  by_cases h : x < y
  · rw [if_pos h, if_pos h]
  · rw [if_neg h, if_neg h]
    by_cases h2 : x > y
    · rw [if_pos h2, if_pos h2]
    · rw [if_neg h2, if_neg h2]

theorem compare_f {a b : Nat} (ha : a < 2 ^ 64) (hb : b < 2 ^ 64) : order_Compare.f a b = some (icmp (fkey a) (fkey b)) := by
  unfold order_Compare.f
  rw [key_f ha, key_f hb]
  simp only [Option.bind_some]
  rw [cmp_f]
  rfl

/-- counting up -/
theorem countUp {β γ : Type} {g : γ → Int → Nat → Option β} {n : Nat} {st : Nat → γ} {v : β}
    (hs : ∀ j : Nat, j < n → Ev (g (st (j + 1)) ((j + 1 : Nat) : Int)) v → Ev (g (st j) (j : Int)) v) (hend : Ev (g (st n) (n : Int)) v) : Ev (g (st 0) 0) v := by
  have H : ∀ d j : Nat, j + d = n → Ev (g (st j) (j : Int)) v := by
    intro d
    induction d with
    | zero =>
      intro j hj
      obtain rfl : j = n := by omega
      exact hend
    | succ d ih =>
      intro j hj
      exact hs j (by omega) (ih (j + 1) (by omega))
  exact H n 0 (by omega)
theorem w1 {j n : Nat} (h : j < n) (hn : n ≤ 17592186044416) : wrap64 ((j : Int) + 1) = ((j + 1 : Nat) : Int) := by rw [w64 (by omega) (by omega)]; omega
/-- numbers by their bits, as whole numbers -/
abbrev bz (m : List Nat) : List Int := m.map Int.ofNat
theorem rd_bz (m : List Nat) (j : Nat) (hj : j < m.length) : rd (bz m) (j : Int) = ((m[j] : Nat) : Int) := by
  unfold rd
  rw [Int.toNat_natCast, List.getD_eq_getElem?_getD, List.getElem?_map, List.getElem?_eq_getElem hj]
  rfl
theorem rdOf_nat (m : List Nat) (j : Nat) (hj : j < m.length) : rdOf (0 : Nat) m (j : Int) = m[j] := by
  unfold rdOf
  rw [Int.toNat_natCast, List.getD_eq_getElem?_getD, List.getElem?_eq_getElem hj]
  rfl
theorem list_ev (m : List Nat) (hm : m.length ≤ 17592186044416) : Ev (fun k => thicketlaw06_list.f k (bz m)) m := by
  unfold thicketlaw06_list.f
  refine countUp (γ := List Nat) (g := fun a j k => thicketlaw06_list.l0 k (bz m) a j) (n := m.length) (st := fun j => m.take j) ?_ ?_
  · intro j hj H
    refine Ev.step (fun k => thicketlaw06_list.l0.eq_2 (bz m) _ _ k) (Ev.pos (by rw [List.length_map]; omega) (Ev.pos (by omega) (Ev.pos (by rw [List.length_take]; omega) ?_)))
    rw [w1 hj hm, rd_bz m j hj]
    rw [List.take_succ_eq_append_getElem hj] at H
    exact H
  · refine Ev.step (fun k => thicketlaw06_list.l0.eq_2 (bz m) _ _ k) (Ev.neg (by rw [List.length_map]; omega) ?_)
    rw [List.take_length]
    exact Ev.now _
/-! Below -/
def cntK (y : Int) (m : List Nat) : Nat := (m.filter fun x => decide (fkey x < y)).length
theorem cntK_le (y : Int) (m : List Nat) : cntK y m ≤ m.length := List.length_filter_le _ _
theorem cntK_take (y : Int) (m : List Nat) (j : Nat) (hj : j < m.length) : cntK y (m.take (j + 1)) = cntK y (m.take j) + if fkey m[j] < y then 1 else 0 := by
  unfold cntK
  rw [List.take_succ_eq_append_getElem hj, List.filter_append, List.length_append]
  congr 1
  by_cases h : fkey m[j] < y <;> simp [h]
theorem below_ev (m : List Nat) (hm : m.length ≤ 17592186044416) (hb : ∀ x ∈ m, x < 2 ^ 64) {v : Nat} (hv : v < 2 ^ 64) : Ev (fun k => order_Below.f k m v) ((cntK (fkey v) m : Nat) : Int) := by
  unfold order_Below.f
  refine countUp (γ := Int) (g := fun c j k => order_Below.l0 k v c m (m.length : Int) j) (n := m.length) (st := fun j => ((cntK (fkey v) (m.take j) : Nat) : Int)) ?_ ?_
  · intro j hj H
    have hc := cntK_le (fkey v) (m.take j)
    rw [List.length_take] at hc
    rw [cntK_take _ m j hj] at H
    refine Ev.step (fun k => order_Below.l0.eq_2 v _ m _ _ k) (Ev.pos (by omega) (Ev.pos (by omega) (Ev.pos (by omega) (Ev.bindc (v := fkey m[j]) ?_ (Ev.bindc (key_f hv) ?_)))))
    · rw [rdOf_nat m j hj]; exact key_f (hb _ (List.getElem_mem hj))
    · rw [w1 hj hm]
      by_cases h : fkey m[j] < fkey v
      · rw [if_pos h] at H
        refine Ev.pos h ?_
        rw [w1 (n := m.length) (by omega) hm]
        exact H
      · rw [if_neg h] at H
        exact Ev.neg h H
  · refine Ev.step (fun k => order_Below.l0.eq_2 v _ m _ _ k) (Ev.neg (by omega) ?_)
    rw [List.take_length]
    exact Ev.now _
end Go.Proofs.Ytdhiljimmijghaa
