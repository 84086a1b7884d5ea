/-
 Plain words that the lists' texts share: answers that come with enough rounds, categories, inner nodes.
-/
import Derived.Test.YtfmjgjfbnilpoaaFAllx2
import Derived.Test.YtfmjgjfbnilpoaaEv
import Derived.Shelf.Abstract
namespace Go.Proofs.Ytfmjgjfbnilpoaa.FAll
open Go.RowKit Go.Shelf YtfmjgjfbnilpoaaW.PrintWords YtfmjgjfbnilpoaaW.PrintLast YtfmjgjfbnilpoaaW.PrintMore
set_option linter.unusedVariables false
set_option linter.unusedSimpArgs false
section
variable {α β : Type} {r : α}
theorem evp {c : Prop} [Decidable c] {g f : Nat → Option α} (h : c) (H : Ev g r) : Ev (fun k => if c then g k else f k) r := Ev.congr (fun k => if_pos h) H
theorem evn {c : Prop} [Decidable c] {g f : Nat → Option α} (h : ¬ c) (H : Ev f r) : Ev (fun k => if c then g k else f k) r := Ev.congr (fun k => if_neg h) H
theorem eve {g : Nat → Option α} {v : α} (H : Ev g v) (h : v = r) : Ev g r := h ▸ H
end

/-- Is a list of categories right? -/
def catsG (l : List Int) : Nat → Nat → Bool
 | 0, _ => decide (0 < l.length)
 | d + 1, i => if rd l (i : Int) < 0 ∨ 1024 ≤ rd l (i : Int) ∨ (0 < i ∧ rd l (i : Int) ≤ rd l ((i : Int) - 1)) then false else catsG l d (i + 1)
def catsB (l : List Int) : Bool := catsG l l.length 0
def innerB (y : S71) : Bool := y.f0 == 2 || y.f0 == 3
theorem inner_f (y : S71) : trees_inner.f y.f0 y.f1 y.f2 y.f3 y.f4 y.f5 y.f6 y.f7 = some (innerB y) := by
 unfold trees_inner.f innerB
 by_cases h : y.f0 = 2
 ·rw [if_pos h, beq_iff_eq.mpr h, Bool.true_or]
 ·rw [if_neg h, beq_eq_false_iff_ne.mpr h, Bool.false_or]
theorem inner_kind {y : S71} (h : innerB y = true) : y.f0 = 2 ∨ y.f0 = 3 := by
 unfold innerB at h
 simpa using h
end Go.Proofs.Ytfmjgjfbnilpoaa.FAll
/-
 Plain: what the program's Shape answers, and what OK means: each node may be so, and each but the root hangs below one other, once.
-/
namespace Go.Proofs.Ytfmjgjfbnilpoaa.FAll
open Go.RowKit YtfmjgjfbnilpoaaW.PrintWords YtfmjgjfbnilpoaaW.PrintLast YtfmjgjfbnilpoaaW.PrintMore
set_option linter.unusedVariables false
set_option linter.unusedSimpArgs false

/-- May a node of so many be so? -/
def restB (y : S71) (n : Int) : Bool := decide (y.f1 = 0 ∧ 0 ≤ y.f2 ∧ y.f2 < 65536 ∧ (y.f5 = 1 ∨ y.f5 = 2) ∧ 1 ≤ y.f6 ∧ y.f6 < n ∧ 1 ≤ y.f7 ∧ y.f7 < n)
def rightB (y : S71) (n : Int) : Bool :=
 if y.f0 = 1 then decide (y.f2 = 0 ∧ f64bits y.f3 = 0 ∧ y.f4.length = 0 ∧ y.f5 = 0 ∧ y.f6 = 0 ∧ y.f7 = 0)
 else if y.f0 = 2 then feq y.f3 y.f3 && (decide (y.f4.length = 0) && restB y n)
 else if y.f0 = 3 then decide (f64bits y.f3 = 0) && (catsB y.f4 && restB y n) else false
theorem right_kids {y : S71} {n : Int} (h : rightB y n = true) : y.f0 = 1 ∨ ((y.f0 = 2 ∨ y.f0 = 3) ∧ 1 ≤ y.f6 ∧ y.f6 < n ∧ 1 ≤ y.f7 ∧ y.f7 < n) := by
 unfold rightB restB at h
 by_cases e1 : y.f0 = 1
 ·exact .inl e1
 ·rw [if_neg e1] at h
  by_cases e2 : y.f0 = 2
  ·rw [if_pos e2] at h
   simp only [Bool.and_eq_true, decide_eq_true_eq] at h
   exact .inr ⟨.inl e2, h.2.2.2.2.2.2⟩
  ·rw [if_neg e2] at h
   by_cases e3 : y.f0 = 3
   ·rw [if_pos e3] at h
    simp only [Bool.and_eq_true, decide_eq_true_eq] at h
    exact .inr ⟨.inr e3, h.2.2.2.2.2.2⟩
   ·rw [if_neg e3] at h
    cases h

theorem catsT_ev (b : Bool) (l : List Int) (hl : l.length ≤ 9223372036854775807) : ∀ (d i : Nat) (last : Int), i + d = l.length → (i = 0 ∧ last = -1 ∨ 0 < i ∧ last = rd l ((i : Int) - 1) ∧ 0 ≤ last) →
  Ev (fun k => trees_right.l0 k b last l (l.length : Int) (i : Int)) (b && catsG l d i) := by
 intro d
 induction d with
 | zero =>
  intro i last hi hlast
  refine Ev.step (f := fun k => _) (fun k => rfl) ?_
  refine evn (by omega) ?_
  unfold catsG
  cases b with
  | false => refine evn (by decide) ?_; exact eve (Ev.now _) rfl
  | true =>
   refine evp rfl ?_
   refine eve (Ev.now _) ?_
   rw [Bool.true_and]
   exact decide_eq_decide.2 (by omega)
 | succ d ih =>
  intro i last hi hlast
  refine Ev.step (f := fun k => _) (fun k => rfl) ?_
  refine evp (by omega) ?_
  refine evp (by omega) ?_
  refine evp (by omega) ?_
  have e1 : wrap64 ((i : Int) + 1) = ((i + 1 : Nat) : Int) := by unfold wrap64; omega
  unfold catsG
  by_cases h1 : rd l (i : Int) ≤ last
  ·refine evp h1 ?_
   have hc : rd l (i : Int) < 0 ∨ 1024 ≤ rd l (i : Int) ∨ (0 < i ∧ rd l (i : Int) ≤ rd l ((i : Int) - 1)) := by
    rcases hlast with ⟨h0, h2⟩ | ⟨h0, h2, h3⟩
    ·left; omega
    ·right; right; exact ⟨h0, by omega⟩
   exact eve (Ev.now _) (by rw [if_pos hc, Bool.and_false])
  ·refine evn h1 ?_
   by_cases h2 : rd l (i : Int) ≥ 1024
   ·refine evp h2 ?_
    exact eve (Ev.now _) (by rw [if_pos (Or.inr (Or.inl h2)), Bool.and_false])
   ·refine evn h2 ?_
    have hc : ¬ (rd l (i : Int) < 0 ∨ 1024 ≤ rd l (i : Int) ∨ (0 < i ∧ rd l (i : Int) ≤ rd l ((i : Int) - 1))) := by
     rcases hlast with ⟨h0, h3⟩ | ⟨h0, h3, h4⟩ <;> omega
    rw [if_neg hc, e1]
    refine ih (i + 1) _ (by omega) (Or.inr ⟨by omega, ?_, ?_⟩)
    ·rw [show ((i + 1 : Nat) : Int) - 1 = (i : Int) by omega]
    ·rcases hlast with ⟨h0, h3⟩ | ⟨h0, h3, h4⟩ <;> omega

theorem ite_somes {c : Prop} [Decidable c] (a b : Bool) : (if c then some a else some b) = some ((decide c && a) || (!decide c && b)) := by
 by_cases h : c <;> simp [h]
theorem rightT (y : S71) (n : Int) (hl : y.f4.length ≤ 9223372036854775807) : Ev (fun k => trees_right.f k y.f0 y.f1 y.f2 y.f3 y.f4 y.f5 y.f6 y.f7 n) (rightB y n) := by
 obtain ⟨K, hK⟩ := catsT_ev (f64bits y.f3 == 0) y.f4 hl y.f4.length 0 (-1) (by omega) (Or.inl ⟨rfl, rfl⟩)
 have hk := hK K (Nat.le_refl _)
 refine Ev.of (fun k => trees_right.mono _ _ _ _ _ _ _ _ _ k) (k := K + 1) ?_
 obtain ⟨a0, a1, a2, a3, l4, a5, a6, a7⟩ := y
 simp only at hk hl ⊢
 replace hk : trees_right.l0 K (f64bits a3 == 0) (-1) l4 (l4.length : Int) 0 = some ((f64bits a3 == 0) && catsB l4) := hk
 unfold trees_right.f rightB restB trees_inner.f
 simp only [trees_right.j0, hk, Option.bind_some]
 by_cases e1 : a0 = 1
 ·subst e1
  simp only [if_true, ite_somes, Option.some.injEq]
  rw [Bool.eq_iff_iff]
  simp only [Bool.and_eq_true, Bool.or_eq_true, Bool.not_eq_true', decide_eq_true_eq, decide_eq_false_iff_not, beq_iff_eq, Bool.false_eq_true, and_false, or_false]
  omega
 ·by_cases e2 : a0 = 2
  ·subst e2
   rw [if_neg e1, if_neg e1]
   cases hf : feq a3 a3
   ·simp only [Option.bind_some, if_true, Bool.false_eq_true, if_false, ite_somes, Option.some.injEq]
    rw [Bool.eq_iff_iff]
    simp only [Bool.and_eq_true, Bool.or_eq_true, Bool.not_eq_true', decide_eq_true_eq, decide_eq_false_iff_not, beq_iff_eq, Bool.false_eq_true, and_false, or_false, false_or, true_and, false_and]
   ·simp only [Option.bind_some, if_true, Bool.false_eq_true, if_false, ite_somes, Option.some.injEq]
    rw [Bool.eq_iff_iff]
    simp only [Bool.and_eq_true, Bool.or_eq_true, Bool.not_eq_true', decide_eq_true_eq, decide_eq_false_iff_not, beq_iff_eq, Bool.false_eq_true, and_false, or_false, false_or, true_and, false_and]
    omega
  ·by_cases e3 : a0 = 3
   ·subst e3
    rw [if_neg e1, if_neg e1, if_neg e2, if_neg e2]
    cases hc : catsB l4
    ·simp only [Option.bind_some, beq_self_eq_true, if_true, Bool.false_eq_true, if_false, ite_somes, Option.some.injEq, if_neg e2, Bool.and_false]
     rw [Bool.eq_iff_iff]
     simp only [Bool.and_eq_true, Bool.or_eq_true, Bool.not_eq_true', decide_eq_true_eq, decide_eq_false_iff_not, beq_iff_eq, Bool.false_eq_true, and_false, or_false, false_or, true_and, false_and]
    ·simp only [Option.bind_some, beq_self_eq_true, if_true, Bool.false_eq_true, if_false, ite_somes, Option.some.injEq, if_neg e2, Bool.and_true]
     rw [Bool.eq_iff_iff]
     simp only [Bool.and_eq_true, Bool.or_eq_true, Bool.not_eq_true', decide_eq_true_eq, decide_eq_false_iff_not, beq_iff_eq, Bool.false_eq_true, and_false, or_false, false_or, true_and, false_and]
     omega
   ·have e3' : (a0 == 3) = false := beq_eq_false_iff_ne.mpr e3
    simp only [if_neg e1, if_neg e2, if_neg e3, e3', Option.bind_some, Bool.false_eq_true, if_false, if_true]

theorem inner_leaf {y : S71} (h : y.f0 = 1) : trees_inner.f y.f0 y.f1 y.f2 y.f3 y.f4 y.f5 y.f6 y.f7 = some false := by
 unfold trees_inner.f
 rw [if_neg (by omega), beq_eq_false_iff_ne.mpr (by omega)]
theorem inner_in {y : S71} (h : y.f0 = 2 ∨ y.f0 = 3) : trees_inner.f y.f0 y.f1 y.f2 y.f3 y.f4 y.f5 y.f6 y.f7 = some true := by
 unfold trees_inner.f
 rcases h with h | h
 ·rw [if_pos h]
 ·rw [if_neg (by omega), beq_iff_eq.mpr h]

/-- How often a node hangs x below it. -/
def kidC (y : S71) (x : Int) : Int := if y.f0 = 1 then 0 else (if y.f6 = x then 1 else 0) + (if y.f7 = x then 1 else 0)
def kidsC (ns : List S71) : Nat → Nat → Int → Int
 | 0, _, _ => 0
 | d + 1, i, x => kidC (rd_T71 ns (i : Int)) x + kidsC ns d (i + 1) x
theorem kidC_nonneg (y : S71) (x : Int) : 0 ≤ kidC y x ∧ kidC y x ≤ 2 := by unfold kidC; repeat' split <;> omega
theorem kidsC_nonneg (ns : List S71) (x : Int) : ∀ d i, 0 ≤ kidsC ns d i x := by
 intro d
 induction d with
 | zero => intro i; exact Int.le_refl _
 | succ d ih => intro i; have := ih (i + 1); have := (kidC_nonneg (rd_T71 ns (i : Int)) x).1; unfold kidsC; omega
theorem rd_set' (l : List Int) (a v x : Int) (ha : 0 ≤ a ∧ a < (l.length : Int)) (hx : 0 ≤ x) : rd (l.set a.toNat v) x = if x = a then v else rd l x := by
 unfold rd
 rw [List.getD_eq_getElem?_getD, List.getD_eq_getElem?_getD, List.getElem?_set]
 by_cases h : x = a
 ·subst h
  rw [if_pos rfl, if_pos (by omega), if_pos rfl]
  rfl
 ·rw [if_neg (by omega), if_neg h]
section
variable (t0 : Int) (ns : List S71)
theorem shapeT_l2 (above : List Int) (reached : List Bool) (ha : above.length = ns.length) (hr : reached.length = ns.length) (hn : ns.length ≤ 1759218604441) : ∀ d i : Nat, i + d = ns.length →
  ∃ r, Ev (fun k => trees_Shape.l2 k above reached (ns.length : Int) (i : Int)) r ∧ (r.1 = 0 → r = (0, 0) ∧ ∀ j : Nat, i ≤ j → j < ns.length → rd above (j : Int) = if j = 0 then 0 else 1) := by
 intro d
 induction d with
 | zero =>
  intro i hi
  refine ⟨(0, 0), Ev.step (f := fun k => _) (fun k => rfl) (evn (by omega) (Ev.now _)), fun _ => ⟨rfl, fun j h1 h2 => by omega⟩⟩
 | succ d ih =>
  intro i hi
  obtain ⟨r, h1, h2⟩ := ih (i + 1) (by omega)
  have e1 : wrap64 ((i : Int) + 1) = ((i + 1 : Nat) : Int) := by unfold wrap64; omega
  have hmn : mn (i : Int) 1 = if i = 0 then 0 else 1 := by unfold mn; split <;> split <;> omega
  by_cases ha0 : rd above (i : Int) = mn (i : Int) 1
  ·by_cases hre : rdOf false reached (i : Int) = true
   ·refine ⟨r, Ev.step (f := fun k => _) (fun k => rfl) ?_, fun hr0 => ⟨(h2 hr0).1, fun j hj1 hj2 => ?_⟩⟩
    ·refine evp (by omega) (evp (by omega) (evp (by omega) (evp ha0 (evp (by omega) (evp hre ?_)))))
     rw [e1]; exact h1
    ·by_cases hji : j = i
     ·subst hji
      rw [ha0, hmn]
     ·exact (h2 hr0).2 j (by omega) hj2
   ·refine ⟨(70, (i : Int)), Ev.step (f := fun k => _) (fun k => rfl) ?_, fun h => absurd (show (70 : Int) = 0 from h) (by decide)⟩
    exact evp (by omega) (evp (by omega) (evp (by omega) (evp ha0 (evp (by omega) (evn hre (Ev.now _))))))
  ·refine ⟨(70, (i : Int)), Ev.step (f := fun k => _) (fun k => rfl) ?_, fun h => absurd (show (70 : Int) = 0 from h) (by decide)⟩
   exact evp (by omega) (evp (by omega) (evp (by omega) (evn ha0 (Ev.now _))))

theorem countP_mark : ∀ (l : List Bool) (i : Nat), i < l.length → l.getD i false = false → (l.set i true).countP (fun b => !b) + 1 = l.countP (fun b => !b) := by
 intro l
 induction l with
 | nil => intro i h; exact absurd h (Nat.not_lt_zero _)
 | cons a l ih =>
  intro i h hf
  cases i with
  | zero =>
   obtain rfl : a = false := hf
   simp
  | succ i =>
   have h2 := ih i (by simpa using h) (by simpa using hf)
   rw [List.set_cons_succ, List.countP_cons, List.countP_cons]
   omega
theorem shapeT_l1 (above : List Int) (ha : above.length = ns.length) (hn : ns.length ≤ 1759218604441) (h0 : ∀ j : Nat, j < ns.length → rightB (rd_T71 ns (j : Int)) (ns.length : Int) = true) : ∀ (m : Nat), m ≤ 5000000000000 → ∀ (reached : List Bool) (stack : List Int), reached.length = ns.length → (∀ s ∈ stack, 0 ≤ s ∧ s < (ns.length : Int)) →
  2 * reached.countP (fun b => !b) + stack.length ≤ m →
  ∃ r, Ev (fun k => trees_Shape.l1 k above reached stack t0 ns) r ∧ (r.1 = 0 → r = (0, 0) ∧ ∀ j : Nat, j < ns.length → rd above (j : Int) = if j = 0 then 0 else 1) := by
 intro m
 induction m with
 | zero =>
  intro hmb reached stack hr hs hm
  obtain ⟨r, h1, h2⟩ := shapeT_l2 ns above reached ha hr hn ns.length 0 (by omega)
  refine ⟨r, Ev.step (f := fun k => _) (fun k => rfl) ?_, fun h => ⟨(h2 h).1, fun j hj => (h2 h).2 j (by omega) hj⟩⟩
  exact evn (by omega) h1
 | succ m ih =>
  intro hmb reached stack hr hs hm
  replace ih := ih (by omega)
  by_cases hl : stack.length = 0
  ·obtain ⟨r, h1, h2⟩ := shapeT_l2 ns above reached ha hr hn ns.length 0 (by omega)
   refine ⟨r, Ev.step (f := fun k => _) (fun k => rfl) ?_, fun h => ⟨(h2 h).1, fun j hj => (h2 h).2 j (by omega) hj⟩⟩
   exact evn (by omega) h1
  ·have hcp : reached.countP (fun b => !b) ≤ ns.length := by rw [← hr]; exact List.countP_le_length
   have hbig : stack.length ≤ 5000000000000 := by omega
   have ew : wrap64 ((stack.length : Int) - 1) = ((stack.length - 1 : Nat) : Int) := by unfold wrap64; omega
   obtain ⟨s, hse⟩ : ∃ s, s = rd stack ((stack.length - 1 : Nat) : Int) := ⟨_, rfl⟩
   have hsm : s ∈ stack := by
    rw [hse]
    unfold rd
    rw [Int.toNat_natCast, List.getD_eq_getElem?_getD, List.getElem?_eq_getElem (by omega)]
    exact List.getElem_mem (by omega)
   obtain ⟨hs0, hs1⟩ := hs s hsm
   obtain ⟨j, rfl⟩ := Int.eq_ofNat_of_zero_le hs0
   have hj : j < ns.length := by omega
   have ht : (stack.take (stack.length - 1)).length = stack.length - 1 := by rw [List.length_take]; omega
   have htm : ∀ s ∈ stack.take (stack.length - 1), 0 ≤ s ∧ s < (ns.length : Int) := fun s h => hs s (List.mem_of_mem_take h)
   by_cases hre : rdOf false reached (j : Int) = true
   ·obtain ⟨r, h1, h2⟩ := ih reached (stack.take (stack.length - 1)) hr htm (by rw [ht]; omega)
    refine ⟨r, Ev.step (f := fun k => _) (fun k => rfl) ?_, h2⟩
    refine evp (by omega) ?_
    rw [ew, ← hse]
    refine evp (by omega) (evp (by omega) (evp (by omega) ?_))
    refine Ev.congr (fun k => Option.bind_some _ _) ?_
    refine evp (by omega) (evp (by omega) (evp hre ?_))
    rw [Int.toNat_natCast]; exact h1
   ·have hrf : reached.getD j false = false := by
     have h : ¬ reached.getD (j : Int).toNat false = true := hre
     rw [Int.toNat_natCast] at h
     exact Bool.eq_false_iff.mpr h
    have hcm := countP_mark reached j (by omega) hrf
    have hlen : (reached.set j true).length = ns.length := by rw [List.length_set]; exact hr
    rcases right_kids (h0 j hj) with hleaf | ⟨hin, k6, k6', k7, k7'⟩
    ·obtain ⟨r, h1, h2⟩ := ih (reached.set j true) (stack.take (stack.length - 1)) hlen htm (by rw [ht]; omega)
     refine ⟨r, Ev.step (f := fun k => _) (fun k => rfl) ?_, h2⟩
     refine evp (by omega) ?_
     rw [ew, ← hse]
     refine evp (by omega) (evp (by omega) (evp (by omega) ?_))
     refine Ev.congr (fun k => Option.bind_some _ _) ?_
     refine evp (by omega) (evp (by omega) (evn hre ?_))
     refine Ev.congr (fun k => Option.bind_some _ _) ?_
     refine evp (by omega) ?_
     rw [inner_leaf hleaf]
     refine Ev.congr (fun k => Option.bind_some _ _) ?_
     refine evn (by decide) ?_
     rw [Int.toNat_natCast, Int.toNat_natCast]; exact h1
    ·obtain ⟨r, h1, h2⟩ := ih (reached.set j true) (stack.take (stack.length - 1) ++ [(rd_T71 ns (j : Int)).f6, (rd_T71 ns (j : Int)).f7]) hlen (by
       intro s h
       rcases List.mem_append.1 h with h | h
       ·exact htm s h
       ·rcases List.mem_cons.1 h with rfl | h
        ·exact ⟨by omega, k6'⟩
        ·rcases List.mem_cons.1 h with rfl | h
         ·exact ⟨by omega, k7'⟩
         ·cases h) (by rw [List.length_append, ht]; simp only [List.length_cons, List.length_nil]; omega)
     refine ⟨r, Ev.step (f := fun k => _) (fun k => rfl) ?_, h2⟩
     refine evp (by omega) ?_
     rw [ew, ← hse]
     refine evp (by omega) (evp (by omega) (evp (by omega) ?_))
     refine Ev.congr (fun k => Option.bind_some _ _) ?_
     refine evp (by omega) (evp (by omega) (evn hre ?_))
     refine Ev.congr (fun k => Option.bind_some _ _) ?_
     refine evp (by omega) ?_
     rw [inner_in hin]
     refine Ev.congr (fun k => Option.bind_some _ _) ?_
     refine evp rfl ?_
     refine Ev.congr (fun k => Option.bind_some _ _) ?_
     refine evp (by simp only [Int.toNat_natCast, ht, List.length_cons, List.length_nil]; omega) ?_
     rw [Int.toNat_natCast, Int.toNat_natCast]; exact h1

theorem shapeT_l0 (hn : ns.length ≤ 1759218604441) (hz : ns.length ≠ 0) (hcats : ∀ y ∈ ns, y.f4.length ≤ 9223372036854775807) : ∀ (d i : Nat) (above : List Int), i + d = ns.length → above.length = ns.length → (∀ x : Int, 0 ≤ x → 0 ≤ rd above x ∧ rd above x ≤ 2 * (i : Int)) → (∀ j : Nat, j < i → rightB (rd_T71 ns (j : Int)) (ns.length : Int) = true) →
  ∃ r, Ev (fun k => trees_Shape.l0 k above ns (ns.length : Int) (i : Int) t0 ns) r ∧ (r.1 = 0 → r = (0, 0) ∧ (∀ j : Nat, j < ns.length → rightB (rd_T71 ns (j : Int)) (ns.length : Int) = true) ∧ ∀ j : Nat, j < ns.length → rd above (j : Int) + kidsC ns d i (j : Int) = if j = 0 then 0 else 1) := by
 intro d
 induction d with
 | zero =>
  intro i above hi ha hb hr
  obtain rfl : i = ns.length := by omega
  have hc : 2 * (List.replicate ns.length false).countP (fun b => !b) + ([0] : List Int).length ≤ 2 * ns.length + 1 := by
   have h := List.countP_le_length (p := fun b : Bool => !b) (l := List.replicate ns.length false)
   rw [List.length_replicate] at h
   simp only [List.length_cons, List.length_nil]
   omega
  have hs0 : ∀ s ∈ ([0] : List Int), 0 ≤ s ∧ s < (ns.length : Int) := by
   intro s h
   obtain rfl : s = 0 := by simpa using h
   omega
  obtain ⟨r, h1, h2⟩ := shapeT_l1 t0 ns above ha hn hr (2 * ns.length + 1) (by omega) (List.replicate ns.length false) [0] (List.length_replicate) hs0 hc
  refine ⟨r, Ev.step (f := fun k => _) (fun k => rfl) ?_, fun h => ⟨(h2 h).1, hr, fun j hj => ?_⟩⟩
  ·refine evn (by omega) (evp (by omega) (evp (by omega) ?_))
   rw [Int.toNat_natCast]; exact h1
  ·have := (h2 h).2 j hj
   unfold kidsC
   omega
 | succ d ih =>
  intro i above hi ha hbd hr
  have e1 : wrap64 ((i : Int) + 1) = ((i + 1 : Nat) : Int) := by unfold wrap64; omega
  have hmem : rd_T71 ns (i : Int) ∈ ns := by
   unfold rd_T71
   rw [Int.toNat_natCast, List.getD_eq_getElem?_getD, List.getElem?_eq_getElem (by omega)]
   exact List.getElem_mem (by omega)
  have hl := hcats _ hmem
  have gT := rightT (rd_T71 ns (i : Int)) (ns.length : Int) hl
  cases hb : rightB (rd_T71 ns (i : Int)) (ns.length : Int) with
  | false =>
   rw [hb] at gT
   refine ⟨(71, (i : Int)), Ev.step (f := fun k => _) (fun k => rfl) ?_, fun h => absurd (show (71 : Int) = 0 from h) (by decide)⟩
   refine evp (by omega) (evp (by omega) (evp (by omega) ?_))
   exact Ev.bind gT (evn (by decide) (Ev.now _))
  | true =>
   rw [hb] at gT
   have hr' : ∀ j : Nat, j < i + 1 → rightB (rd_T71 ns (j : Int)) (ns.length : Int) = true := by
    intro j hj
    by_cases e : j = i
    ·subst e; exact hb
    ·exact hr j (by omega)
   rcases right_kids hb with hleaf | ⟨hin, k6, k6', k7, k7'⟩
   ·obtain ⟨r, h1, h2⟩ := ih (i + 1) above (by omega) ha (fun x hx => by have := hbd x hx; omega) hr'
    refine ⟨r, Ev.step (f := fun k => _) (fun k => rfl) ?_, fun h => ⟨(h2 h).1, (h2 h).2.1, fun j hj => ?_⟩⟩
    ·refine evp (by omega) (evp (by omega) (evp (by omega) ?_))
     refine Ev.bind gT (evp rfl ?_)
     rw [inner_leaf hleaf]
     refine Ev.congr (fun k => Option.bind_some _ _) ?_
     refine evn (by decide) ?_
     rw [e1]; exact h1
    ·have h3 := (h2 h).2.2 j hj
     have h4 : kidC (rd_T71 ns (i : Int)) (j : Int) = 0 := by unfold kidC; rw [if_pos hleaf]
     unfold kidsC
     omega
   ·have hleaf : ¬ (rd_T71 ns (i : Int)).f0 = 1 := by omega
    obtain ⟨y1, hy1⟩ : ∃ y1, y1 = above.set (rd_T71 ns (i : Int)).f6.toNat (wrap64 (rd above (rd_T71 ns (i : Int)).f6 + 1)) := ⟨_, rfl⟩
    have hy1l : y1.length = ns.length := by rw [hy1, List.length_set]; exact ha
    obtain ⟨y2, hy2⟩ : ∃ y2, y2 = y1.set (rd_T71 ns (i : Int)).f7.toNat (wrap64 (rd y1 (rd_T71 ns (i : Int)).f7 + 1)) := ⟨_, rfl⟩
    have hr1 : ∀ x : Int, 0 ≤ x → rd y1 x = if x = (rd_T71 ns (i : Int)).f6 then rd above x + 1 else rd above x := by
     intro x hx
     rw [hy1, rd_set' _ _ _ _ (by omega) hx]
     split
     ·rename_i h
      subst h
      have := hbd _ hx
      unfold wrap64
      omega
     ·rfl
    have hr2 : ∀ x : Int, 0 ≤ x → rd y2 x = rd above x + kidC (rd_T71 ns (i : Int)) x := by
     intro x hx
     have h3 := hbd x hx
     have h4 := hr1 x hx
     rw [hy2, rd_set' _ _ _ _ (by omega) hx]
     unfold kidC
     rw [if_neg hleaf]
     by_cases g6 : x = (rd_T71 ns (i : Int)).f6
     ·rw [if_pos g6] at h4
      rw [if_pos g6.symm]
      by_cases g7 : x = (rd_T71 ns (i : Int)).f7
      ·rw [if_pos g7, if_pos g7.symm, ← g7]
       unfold wrap64
       omega
      ·rw [if_neg g7, if_neg (Ne.symm g7)]
       omega
     ·rw [if_neg g6] at h4
      rw [if_neg (Ne.symm g6)]
      by_cases g7 : x = (rd_T71 ns (i : Int)).f7
      ·rw [if_pos g7, if_pos g7.symm, ← g7]
       unfold wrap64
       omega
      ·rw [if_neg g7, if_neg (Ne.symm g7)]
       omega
    obtain ⟨r, h1, h2⟩ := ih (i + 1) y2 (by omega) (by rw [hy2, List.length_set]; exact hy1l) (fun x hx => by have h3 := hbd x hx; have h4 := hr2 x hx; have h5 := kidC_nonneg (rd_T71 ns (i : Int)) x; omega) hr'
    refine ⟨r, Ev.step (f := fun k => _) (fun k => rfl) ?_, fun h => ⟨(h2 h).1, (h2 h).2.1, fun j hj => ?_⟩⟩
    ·refine evp (by omega) (evp (by omega) (evp (by omega) ?_))
     refine Ev.bind gT (evp rfl ?_)
     rw [inner_in hin]
     refine Ev.congr (fun k => Option.bind_some _ _) ?_
     refine evp rfl (evp (by omega) (evp (by omega) ?_))
     refine Ev.congr (fun k => Option.bind_some _ _) ?_
     refine evp (by omega) (evp (by omega) ?_)
     rw [e1, ← hy1, ← hy2]; exact h1
    ·have h3 := (h2 h).2.2 j hj
     have h4 := hr2 (j : Int) (by omega)
     unfold kidsC
     omega

/-- What Shape's OK means. -/
structure TreeFine : Prop where
 some : 0 < ns.length
 fit : ∀ j : Nat, j < ns.length → rightB (rd_T71 ns (j : Int)) (ns.length : Int) = true
 once : ∀ j : Nat, j < ns.length → kidsC ns ns.length 0 (j : Int) = if j = 0 then 0 else 1
theorem shapeT (hn : ns.length ≤ 1759218604441) (hcats : ∀ y ∈ ns, y.f4.length ≤ 9223372036854775807) : ∃ r, (∃ k, trees_Shape.f k t0 ns = some r) ∧ (r.1 = 0 → r = (0, 0) ∧ TreeFine ns) := by
 by_cases hz : ns.length = 0
 ·refine ⟨(70, 0), ⟨0, ?_⟩, fun h => absurd h (by decide)⟩
  unfold trees_Shape.f; rw [if_pos (by omega)]
 ·have hrep : ∀ x : Int, rd (List.replicate ns.length 0) x = 0 := by
   intro x
   unfold rd
   rw [List.getD_eq_getElem?_getD, List.getElem?_replicate]
   split <;> rfl
  obtain ⟨r, h1, h2⟩ := shapeT_l0 t0 ns hn hz hcats ns.length 0 (List.replicate ns.length 0) (by omega) (List.length_replicate) (fun x hx => by rw [hrep]; omega) (fun j h => absurd h (Nat.not_lt_zero _))
  obtain ⟨k1, h1⟩ := h1.rounds
  refine ⟨r, ⟨k1, ?_⟩, fun h => ⟨(h2 h).1, by omega, (h2 h).2.1, fun j hj => ?_⟩⟩
  ·unfold trees_Shape.f
   rw [if_neg (by omega), if_pos (by omega), if_pos (by omega), Int.toNat_natCast]
   exact h1
  ·have h3 := (h2 h).2.2 j hj
   rw [hrep] at h3
   omega
end
open Classical in
/-- What Shape answers. -/
noncomputable def shapeV (y : S53) : Int × Int :=
 if h : ∃ r, (∃ k, trees_Shape.f k y.f0 y.f1 = some r) ∧ (r.1 = 0 → r = (0, 0) ∧ TreeFine y.f1) then h.choose else (0, 0)
theorem shapeV_spec (y : S53) (hn : y.f1.length ≤ 1759218604441) (hcats : ∀ x ∈ y.f1, x.f4.length ≤ 9223372036854775807) : (∃ k, trees_Shape.f k y.f0 y.f1 = some (shapeV y)) ∧ ((shapeV y).1 = 0 → shapeV y = (0, 0) ∧ TreeFine y.f1) := by
 have h := shapeT y.f0 y.f1 hn hcats
 unfold shapeV
 rw [dif_pos h]
 exact h.choose_spec
end Go.Proofs.Ytfmjgjfbnilpoaa.FAll
