/-
  The plain law of nodes: the document's node answers what rules.node does.
-/
import Derived.Test.YtkemfbocojoagaaDoorRt
import Derived.Test.YtkemfbocojoagaaDoorFk
import Derived.Laws.FloatBits
namespace Go.Proofs.YtkemfbocojoagaaDoor.FAll
open Go.RowKit Go.Proofs.YtkemfbocojoagaaDoor Go.Proofs.YtkemfbocojoagaaDoorW.PrintWords Go.Proofs.YtkemfbocojoagaaDoorW.PrintLast Go.Proofs.YtkemfbocojoagaaDoorW.PrintMore
set_option linter.unusedVariables false
set_option linter.unusedSimpArgs false

theorem refCats_ev (l : List Int) (hl : l.length ≤ 9223372036854775807) : ∀ d i : Nat, i + d = l.length → Ev (fun k => thicketref08_cats.l0 k l (i : Int)) (catsG l d i) := by
  intro d
  induction d with
  | zero =>
    intro i hi
    refine Ev.step (f := fun k => _) (fun k => rfl) ?_
    refine evn (by omega) ?_
    refine eve (Ev.now _) ?_
    unfold catsG
    exact decide_eq_decide.2 (by omega)
  | succ d ih =>
    intro i hi
    refine Ev.step (f := fun k => _) (fun k => rfl) ?_
    refine evp (by omega) ?_
    refine evp (by omega) ?_
    unfold catsG
    by_cases h1 : rd l (i : Int) < 0
    · refine evp h1 ?_
      exact eve (Ev.now _) (by rw [if_pos (Or.inl h1)])
    · refine evn h1 ?_
      by_cases h2 : rd l (i : Int) ≥ 1024
      · refine evp h2 ?_
        exact eve (Ev.now _) (by rw [if_pos (Or.inr (Or.inl h2))])
      · refine evn h2 ?_
        have e1 : wrap64 ((i : Int) + 1) = ((i + 1 : Nat) : Int) := by unfold wrap64; omega
        by_cases h3 : (i : Int) > 0
        · have e2 : wrap64 ((i : Int) - 1) = (i : Int) - 1 := by unfold wrap64; omega
          refine evp h3 ?_
          rw [e2]
          refine evp (by omega) ?_
          refine evp (by omega) ?_
          by_cases h4 : rd l (i : Int) ≤ rd l ((i : Int) - 1)
          · refine evp h4 ?_
            exact eve (Ev.now _) (by rw [if_pos (Or.inr (Or.inr ⟨by omega, h4⟩))])
          · refine evn h4 ?_
            rw [if_neg (by omega), e1]
            exact ih (i + 1) (by omega)
        · refine evn h3 ?_
          rw [if_neg (by omega), e1]
          exact ih (i + 1) (by omega)
theorem refCats_total (l : List Int) (hl : l.length ≤ 9223372036854775807) : ∃ k, thicketref08_cats.f k l = some (catsB l) := (refCats_ev l hl l.length 0 (by omega)).rounds

theorem feq_nan {b : Nat} (hb : b < 2 ^ 64) : (feq b b = true) ↔ ¬ 9218868437227405312 < Go.bits .andNot .u64 (f64bits b) 9223372036854775808 := by
  have e : feq b b = !isNaN b := by unfold feq; rw [f_eql b b hb hb, fEq_self]
  rw [e]
  unfold f64bits
  rw [bits_andNot_sgn b (by omega)]
  unfold isNaN SGN INF
  simp
  omega
theorem feq_zero' : feq 0 0 = true := (feq_nan (by decide)).2 (by decide)

theorem refNode (nf : Nat) (n : Int) (x : S66) (h3 : x.f3 < 2 ^ 64) (hl : x.f4.length ≤ 9223372036854775807) :
    ∃ k, thicketref08_node.f k x.f0 x.f1 x.f2 x.f3 x.f4 x.f5 x.f6 x.f7 (nf : Int) n = some (nodeX nf n x) := by
  obtain ⟨k, hk⟩ := refCats_total x.f4 hl
  refine ⟨k, ?_⟩
  obtain ⟨a0, a1, a2, a3, l4, a5, a6, a7⟩ := x
  simp only at h3 hl hk ⊢
  have hz : f64bits a3 = 0 → a3 = 0 := fun h => by unfold f64bits at h; omega
  unfold thicketref08_node.f nodeX nodeV spareB thicketref08_node.tail
  simp only [hk, Option.bind_some]
  by_cases e1 : a0 = 1
  · subst e1
    by_cases s : f64bits a3 = 0 ∧ a2 = 0 ∧ l4 = [] ∧ a5 = 0 ∧ a6 = 0 ∧ a7 = 0
    · have e3 := hz s.1
      subst e3
      simp [s, feq_zero']
    · simp [s]
      intro g2 g1 g4 g5 g6 g7
      exact s ⟨g1, g2, g4, g5, g6, g7⟩
  · by_cases e2 : a0 = 2
    · subst e2
      by_cases s : a1 = 0 ∧ l4 = []
      · by_cases q : a2 < 0 ∨ (nf : Int) ≤ a2
        · have q' : ¬ (0 ≤ a2 ∧ a2 < (nf : Int)) := by omega
          simp [s, q, q']
        · have q' : (0 ≤ a2 ∧ a2 < (nf : Int)) := by omega
          by_cases u : 9218868437227405312 < Go.bits .andNot .u64 (f64bits a3) 9223372036854775808
          · have u' : feq a3 a3 = false := by
              rw [Bool.eq_false_iff]; intro h; exact (feq_nan h3).1 h u
            simp [s, q, q', u, u']
          · have u' : feq a3 a3 = true := (feq_nan h3).2 u
            by_cases m : a5 = 1 ∨ a5 = 2
            · by_cases t : a6 < 1 ∨ n ≤ a6 ∨ a7 < 1 ∨ n ≤ a7
              · have t' : ¬ (1 ≤ a6 ∧ a6 < n ∧ 1 ≤ a7 ∧ a7 < n) := by omega
                simp [s, q, q', u, u', m, t, t']
              · have t' : (1 ≤ a6 ∧ a6 < n ∧ 1 ≤ a7 ∧ a7 < n) := by omega
                simp [s, q, q', u, u', m, t, t']
            · simp [s, q, q', u, u', m]
      · simp [s]
    · by_cases e3 : a0 = 3
      · subst e3
        by_cases s : a1 = 0 ∧ f64bits a3 = 0
        · have e4 := hz s.2
          subst e4
          by_cases q : a2 < 0 ∨ (nf : Int) ≤ a2
          · have q' : ¬ (0 ≤ a2 ∧ a2 < (nf : Int)) := by omega
            simp [s, q, q']
          · have q' : (0 ≤ a2 ∧ a2 < (nf : Int)) := by omega
            cases hb : catsB l4
            · simp [s, q, q', feq_zero']
            · by_cases m : a5 = 1 ∨ a5 = 2
              · by_cases t : a6 < 1 ∨ n ≤ a6 ∨ a7 < 1 ∨ n ≤ a7
                · have t' : ¬ (1 ≤ a6 ∧ a6 < n ∧ 1 ≤ a7 ∧ a7 < n) := by omega
                  simp [s, q, q', m, t, t', feq_zero']
                · have t' : (1 ≤ a6 ∧ a6 < n ∧ 1 ≤ a7 ∧ a7 < n) := by omega
                  simp [s, q, q', m, t, t', feq_zero']
              · simp [s, q, q', m, feq_zero']
        · simp [s]
      · have e4 : ¬ (1 ≤ a0 ∧ a0 ≤ 3) := by omega
        simp [e1, e2, e3, e4]
end Go.Proofs.YtkemfbocojoagaaDoor.FAll
