/-
  order.Sorted and order.Distinct, as the printed texts ask for them: their walks, and what they answer.
-/
import Derived.Test.YtdhiljimmijghaaDl
import Derived.Test.YtdhiljimmijghaaFAllx
namespace Go.Proofs.Ytdhiljimmijghaa.FAll
open Go.RowKit Go.Sort Go.Proofs.YtdhiljimmijghaaW.PrintWords Go.Proofs.YtdhiljimmijghaaW.PrintLast Go.Proofs.YtdhiljimmijghaaW.PrintMore
set_option linter.unusedVariables false
def keyT (a : Nat) : Int := (order_Key.f a).getD 0
def ltK (x y : Nat) : Bool := decide (keyT x < keyT y)
theorem keyT_some (a : Nat) : order_Key.f a = some (keyT a) := by
  unfold keyT order_Key.f
  split
  · split <;> rfl
  · rfl
theorem swoK : SWO ltK where
  irrefl := fun x => by unfold ltK; simp
  trans := fun x y z h1 h2 => by unfold ltK at *; simp only [decide_eq_true_eq] at *; omega
  ntrans := fun x y z h1 h2 => by unfold ltK at *; simp only [decide_eq_false_iff_not] at *; omega
theorem cmpK_f (x y : Nat) : ∃ c, order_Compare.f x y = some c ∧ decide (c < 0) = ltK x y := by
  unfold order_Compare.f
  rw [keyT_some x, keyT_some y]
  unfold ltK
  simp only [Option.bind_some, cmp_Compare_uint64.f, cmp_isNaN_uint64.f]
  generalize keyT x = a
  generalize keyT y = b
  have ha : (a != a) = false := by simp
  have hb : (b != b) = false := by simp
  rw [ha, hb]
  simp only [Bool.false_eq_true, if_false]
  by_cases h : a < b
  · rw [if_pos h]
    exact ⟨-1, rfl, by simp [h]⟩
  · rw [if_neg h]
    by_cases h2 : a > b
    · rw [if_pos h2]
      exact ⟨1, rfl, by simp [h]⟩
    · rw [if_neg h2]
      exact ⟨0, rfl, by simp [h]⟩
theorem cmpK : CmpF ltK 17 #[] where
  swo := swoK
  enters := fun args w => enters_of Try.func17 (by kernel_rfl) rfl args w
  calls := fun x y w => by
    obtain ⟨c, h1, h2⟩ := cmpK_f x y
    refine (order_Compare.calls x y c w h1).mono ?_
    rintro e w' ⟨rfl, m, rfl⟩
    exact ⟨⟨c, rfl, h2⟩, pw_below_drewN (Below.refl _ _) m⟩
instance ordC : OrdC where
  sortF := sortL ltK
  distF := distinctL
  sorted := fun A0 c0 l0 w hr0 hl => by
    refine (SortedF.calls cmpK w A0 c0 l0 ⟨hr0⟩ ⟨hl⟩).mono ?_
    rintro e w' ⟨v0, ys, rfl, h1, h2, h3, h4⟩
    rw [sortL_unique swoK h1 h2] at h3
    exact ⟨v0, rfl, h3, h4⟩
  distinct := fun A0 c0 l0 w hr0 h1 h2 => by
    refine (Distinct.calls w A0 c0 l0 ⟨hr0⟩ ⟨h2⟩ ⟨h1⟩).mono ?_
    rintro e w' ⟨v0, ks, rfl, h1, h3, h4⟩
    rw [distinct_unique h1 (keysL_of l0)] at h3
    exact ⟨v0, rfl, h3, h4⟩
end Go.Proofs.Ytdhiljimmijghaa.FAll
