/-
 Plain: the program's Shape of a tree is the document's.
-/
import Derived.Test.YtfmjgjfbnilpoaaPh
import Derived.Test.YtfmjgjfbnilpoaaFAllx4
namespace Go.Proofs.Ytfmjgjfbnilpoaa.FAll
open Go.RowKit YtfmjgjfbnilpoaaW.PrintWords YtfmjgjfbnilpoaaW.PrintLast YtfmjgjfbnilpoaaW.PrintMore
set_option linter.unusedVariables false
set_option linter.unusedSimpArgs false

theorem cats07_ev (l : List Int) (hl : l.length ≤ 9223372036854775807) : ∀ d i : Nat, i + d = l.length → Ev (fun k => thicketref07_Cats.l0 k l l (l.length : Int) (i : Int)) (catsG l d i) := by
 intro d
 induction d with
 | zero =>
  intro i hi
  refine Ev.step (f := fun k => _) (fun k => rfl) ?_
  refine evn (by omega) ?_
  refine eve (Ev.now _) ?_
  unfold catsG
  exact decide_eq_decide.2 (by omega)
 | succ d ih =>
  intro i hi
  refine Ev.step (f := fun k => _) (fun k => rfl) ?_
  refine evp (by omega) ?_
  refine evp (by omega) ?_
  refine evp (by omega) ?_
  unfold catsG
  by_cases h1 : rd l (i : Int) < 0
  ·refine evp h1 ?_
   exact eve (Ev.now _) (by rw [if_pos (Or.inl h1)])
  ·refine evn h1 ?_
   by_cases h2 : rd l (i : Int) ≥ 1024
   ·refine evp h2 ?_
    exact eve (Ev.now _) (by rw [if_pos (Or.inr (Or.inl h2))])
   ·refine evn h2 ?_
    have e1 : wrap64 ((i : Int) + 1) = ((i + 1 : Nat) : Int) := by unfold wrap64; omega
    by_cases h3 : (i : Int) > 0
    ·have e2 : wrap64 ((i : Int) - 1) = (i : Int) - 1 := by unfold wrap64; omega
     refine evp h3 ?_
     rw [e2]
     refine evp (by omega) ?_
     refine evp (by omega) ?_
     by_cases h4 : rd l (i : Int) ≤ rd l ((i : Int) - 1)
     ·refine evp h4 ?_
      exact eve (Ev.now _) (by rw [if_pos (Or.inr (Or.inr ⟨by omega, h4⟩))])
     ·refine evn h4 ?_
      rw [if_neg (by omega), e1]
      exact ih (i + 1) (by omega)
    ·refine evn h3 ?_
     rw [if_neg (by omega), e1]
     exact ih (i + 1) (by omega)
theorem cats07_total (l : List Int) (hl : l.length ≤ 9223372036854775807) : ∃ k, thicketref07_Cats.f k l = some (catsB l) := (cats07_ev l hl l.length 0 (by omega)).rounds

theorem right07 (y : S71) (n : Int) (hl : y.f4.length ≤ 9223372036854775807) : Ev (fun k => thicketref07_node.f k y.f0 y.f1 y.f2 y.f3 y.f4 y.f5 y.f6 y.f7 n) (rightB y n) := by
 obtain ⟨k, hk⟩ := cats07_total y.f4 hl
 refine Ev.of (fun k => thicketref07_node.mono _ _ _ _ _ _ _ _ _ k) (k := k) ?_
 obtain ⟨a0, a1, a2, a3, l4, a5, a6, a7⟩ := y
 simp only at hk hl ⊢
 unfold thicketref07_node.f rightB restB thicketref07_nan.f
 simp only [hk, Option.bind_some]
 by_cases e1 : a0 = 1
 ·subst e1
  simp only [if_true, ite_somes, Option.some.injEq]
  rw [Bool.eq_iff_iff]
  simp only [Bool.and_eq_true, Bool.or_eq_true, Bool.not_eq_true', decide_eq_true_eq, decide_eq_false_iff_not, beq_iff_eq, Bool.false_eq_true, and_false, or_false]
  omega
 ·by_cases e2 : a0 = 2
  ·subst e2
   rw [if_neg e1, if_neg e1, if_pos rfl, if_pos rfl]
   cases hf : feq a3 a3
   ·rfl
   ·simp only [Bool.not_true, Bool.false_eq_true, if_false, ite_somes, Option.some.injEq]
    rw [Bool.eq_iff_iff]
    simp only [Bool.and_eq_true, Bool.or_eq_true, Bool.not_eq_true', decide_eq_true_eq, decide_eq_false_iff_not, beq_iff_eq, Bool.false_eq_true, and_false, or_false, false_or, true_and]
    omega
  ·by_cases e3 : a0 = 3
   ·subst e3
    rw [if_neg e1, if_neg e1, if_neg e2, if_neg e2, if_pos rfl, if_pos rfl]
    cases hc : catsB l4
    ·simp only [Bool.false_eq_true, if_false, ite_somes, Option.some.injEq]
     rw [Bool.eq_iff_iff]
     simp only [Bool.and_eq_true, Bool.or_eq_true, Bool.not_eq_true', decide_eq_true_eq, decide_eq_false_iff_not, beq_iff_eq, Bool.false_eq_true, and_false, or_false, false_or, true_and, false_and]
    ·simp only [if_true, ite_somes, Option.some.injEq]
     rw [Bool.eq_iff_iff]
     simp only [Bool.and_eq_true, Bool.or_eq_true, Bool.not_eq_true', decide_eq_true_eq, decide_eq_false_iff_not, beq_iff_eq, Bool.false_eq_true, and_false, or_false, false_or, true_and]
     omega
   ·rw [if_neg e1, if_neg e1, if_neg e2, if_neg e2, if_neg e3, if_neg e3]

section
variable (t0 : Int) (ns : List S71)
theorem shape_l2 (above : List Int) (reached : List Bool) (ha : above.length = ns.length) (hr : reached.length = ns.length) (hn : ns.length ≤ 1759218604441) : ∀ d i : Nat, i + d = ns.length →
  ∃ r, Ev (fun k => trees_Shape.l2 k above reached (ns.length : Int) (i : Int)) r ∧ Ev (fun k => thicketref07_Shape.l2 k above reached (ns.length : Int) (i : Int)) r := by
 intro d
 induction d with
 | zero =>
  intro i hi
  refine ⟨(0, 0), Ev.step (f := fun k => _) (fun k => rfl) ?_, Ev.step (f := fun k => _) (fun k => rfl) ?_⟩
  ·exact evn (by omega) (Ev.now _)
  ·exact evn (by omega) (Ev.now _)
 | succ d ih =>
  intro i hi
  obtain ⟨r, h1, h2⟩ := ih (i + 1) (by omega)
  have e1 : wrap64 ((i : Int) + 1) = ((i + 1 : Nat) : Int) := by unfold wrap64; omega
  have hmn : mn (i : Int) 1 = if i = 0 then 0 else 1 := by unfold mn; split <;> split <;> omega
  by_cases hz : i = 0
  ·have hm : mn (i : Int) 1 = 0 := by rw [hmn, if_pos hz]
   by_cases ha0 : rd above (i : Int) = 0
   ·by_cases hre : rdOf false reached (i : Int) = true
    ·refine ⟨r, Ev.step (f := fun k => _) (fun k => rfl) ?_, Ev.step (f := fun k => _) (fun k => rfl) ?_⟩
     ·refine evp (by omega) (evp (by omega) (evp (by omega) (evp (by rw [ha0, hm]) (evp (by omega) (evp hre ?_)))))
      rw [e1]; exact h1
     ·refine evp (by omega) (evp (by omega) (evp (by omega) (evp (by omega) (evp ha0 (evn (by omega) (evp (by omega) (evp hre ?_)))))))
      rw [e1]; exact h2
    ·refine ⟨(70, (i : Int)), Ev.step (f := fun k => _) (fun k => rfl) ?_, Ev.step (f := fun k => _) (fun k => rfl) ?_⟩
     ·exact evp (by omega) (evp (by omega) (evp (by omega) (evp (by rw [ha0, hm]) (evp (by omega) (evn hre (Ev.now _))))))
     ·exact evp (by omega) (evp (by omega) (evp (by omega) (evp (by omega) (evp ha0 (evn (by omega) (evp (by omega) (evn hre (Ev.now _))))))))
   ·refine ⟨(70, (i : Int)), Ev.step (f := fun k => _) (fun k => rfl) ?_, Ev.step (f := fun k => _) (fun k => rfl) ?_⟩
    ·exact evp (by omega) (evp (by omega) (evp (by omega) (evn (by rw [hm]; exact ha0) (Ev.now _))))
    ·exact evp (by omega) (evp (by omega) (evp (by omega) (evp (by omega) (evn ha0 (Ev.now _)))))
  ·have hm : mn (i : Int) 1 = 1 := by rw [hmn, if_neg hz]
   by_cases ha0 : rd above (i : Int) = 1
   ·by_cases hre : rdOf false reached (i : Int) = true
    ·refine ⟨r, Ev.step (f := fun k => _) (fun k => rfl) ?_, Ev.step (f := fun k => _) (fun k => rfl) ?_⟩
     ·refine evp (by omega) (evp (by omega) (evp (by omega) (evp (by rw [ha0, hm]) (evp (by omega) (evp hre ?_)))))
      rw [e1]; exact h1
     ·refine evp (by omega) (evn (by omega) (evp (by omega) (evp (by omega) (evp (by omega) (evp ha0 (evp (by omega) (evp hre ?_)))))))
      rw [e1]; exact h2
    ·refine ⟨(70, (i : Int)), Ev.step (f := fun k => _) (fun k => rfl) ?_, Ev.step (f := fun k => _) (fun k => rfl) ?_⟩
     ·exact evp (by omega) (evp (by omega) (evp (by omega) (evp (by rw [ha0, hm]) (evp (by omega) (evn hre (Ev.now _))))))
     ·exact evp (by omega) (evn (by omega) (evp (by omega) (evp (by omega) (evp (by omega) (evp ha0 (evp (by omega) (evn hre (Ev.now _))))))))
   ·refine ⟨(70, (i : Int)), Ev.step (f := fun k => _) (fun k => rfl) ?_, Ev.step (f := fun k => _) (fun k => rfl) ?_⟩
    ·exact evp (by omega) (evp (by omega) (evp (by omega) (evn (by rw [hm]; exact ha0) (Ev.now _))))
    ·exact evp (by omega) (evn (by omega) (evp (by omega) (evp (by omega) (evp (by omega) (evn ha0 (Ev.now _))))))

theorem shape_l1 (above : List Int) (ha : above.length = ns.length) (hn : ns.length ≤ 1759218604441) (h0 : ∀ j : Nat, j < ns.length → rightB (rd_T71 ns (j : Int)) (ns.length : Int) = true) : ∀ (m : Nat), m ≤ 5000000000000 → ∀ (reached : List Bool) (stack : List Int), reached.length = ns.length → (∀ s ∈ stack, 0 ≤ s ∧ s < (ns.length : Int)) →
  2 * reached.countP (fun b => !b) + stack.length ≤ m →
  ∃ r, Ev (fun k => trees_Shape.l1 k above reached stack t0 ns) r ∧ Ev (fun k => thicketref07_Shape.l1 k above reached stack t0 ns) r := by
 intro m
 induction m with
 | zero =>
  intro hmb reached stack hr hs hm
  obtain ⟨r, h1, h2⟩ := shape_l2 ns above reached ha hr hn ns.length 0 (by omega)
  refine ⟨r, Ev.step (f := fun k => _) (fun k => rfl) ?_, Ev.step (f := fun k => _) (fun k => rfl) ?_⟩
  ·exact evn (by omega) h1
  ·exact evn (by omega) h2
 | succ m ih =>
  intro hmb reached stack hr hs hm
  replace ih := ih (by omega)
  by_cases hl : stack.length = 0
  ·obtain ⟨r, h1, h2⟩ := shape_l2 ns above reached ha hr hn ns.length 0 (by omega)
   refine ⟨r, Ev.step (f := fun k => _) (fun k => rfl) ?_, Ev.step (f := fun k => _) (fun k => rfl) ?_⟩
   ·exact evn (by omega) h1
   ·exact evn (by omega) h2
  ·have hcp : reached.countP (fun b => !b) ≤ ns.length := by rw [← hr]; exact List.countP_le_length
   have hbig : stack.length ≤ 5000000000000 := by omega
   ·have ew : wrap64 ((stack.length : Int) - 1) = ((stack.length - 1 : Nat) : Int) := by unfold wrap64; omega
    obtain ⟨s, hse⟩ : ∃ s, s = rd stack ((stack.length - 1 : Nat) : Int) := ⟨_, rfl⟩
    have hsm : s ∈ stack := by
     rw [hse]
     unfold rd
     rw [Int.toNat_natCast, List.getD_eq_getElem?_getD, List.getElem?_eq_getElem (by omega)]
     exact List.getElem_mem (by omega)
    obtain ⟨hs0, hs1⟩ := hs s hsm
    obtain ⟨j, rfl⟩ := Int.eq_ofNat_of_zero_le hs0
    have hj : j < ns.length := by omega
    have ht : (stack.take (stack.length - 1)).length = stack.length - 1 := by rw [List.length_take]; omega
    have htm : ∀ s ∈ stack.take (stack.length - 1), 0 ≤ s ∧ s < (ns.length : Int) := fun s h => hs s (List.mem_of_mem_take h)
    by_cases hre : rdOf false reached (j : Int) = true
    ·obtain ⟨r, h1, h2⟩ := ih reached (stack.take (stack.length - 1)) hr htm (by rw [ht]; omega)
     refine ⟨r, Ev.step (f := fun k => _) (fun k => rfl) ?_, Ev.step (f := fun k => _) (fun k => rfl) ?_⟩
     ·refine evp (by omega) ?_
      rw [ew, ← hse]
      refine evp (by omega) (evp (by omega) (evp (by omega) ?_))
      refine Ev.congr (fun k => Option.bind_some _ _) ?_
      refine evp (by omega) (evp (by omega) (evp hre ?_))
      rw [Int.toNat_natCast]; exact h1
     ·refine evp (by omega) ?_
      rw [ew, ← hse]
      refine evp (by omega) (evp (by omega) (evp (by omega) ?_))
      refine Ev.congr (fun k => Option.bind_some _ _) ?_
      refine evp (by omega) (evp (by omega) (evp hre ?_))
      rw [Int.toNat_natCast]; exact h2
    ·have hrf : reached.getD j false = false := by
      have h : ¬ reached.getD (j : Int).toNat false = true := hre
      rw [Int.toNat_natCast] at h
      exact Bool.eq_false_iff.mpr h
     have hcm := countP_mark reached j (by omega) hrf
     have hlen : (reached.set j true).length = ns.length := by rw [List.length_set]; exact hr
     rcases right_kids (h0 j hj) with hleaf | ⟨hin, k6, k6', k7, k7'⟩
     ·obtain ⟨r, h1, h2⟩ := ih (reached.set j true) (stack.take (stack.length - 1)) hlen htm (by rw [ht]; omega)
      refine ⟨r, Ev.step (f := fun k => _) (fun k => rfl) ?_, Ev.step (f := fun k => _) (fun k => rfl) ?_⟩
      ·refine evp (by omega) ?_
       rw [ew, ← hse]
       refine evp (by omega) (evp (by omega) (evp (by omega) ?_))
       refine Ev.congr (fun k => Option.bind_some _ _) ?_
       refine evp (by omega) (evp (by omega) (evn hre ?_))
       refine Ev.congr (fun k => Option.bind_some _ _) ?_
       refine evp (by omega) ?_
       have hi : trees_inner.f (rd_T71 ns (j : Int)).f0 (rd_T71 ns (j : Int)).f1 (rd_T71 ns (j : Int)).f2 (rd_T71 ns (j : Int)).f3 (rd_T71 ns (j : Int)).f4 (rd_T71 ns (j : Int)).f5 (rd_T71 ns (j : Int)).f6 (rd_T71 ns (j : Int)).f7 = some false := by
        unfold trees_inner.f
        rw [if_neg (by omega), beq_eq_false_iff_ne.mpr (by omega)]
       rw [hi]
       refine Ev.congr (fun k => Option.bind_some _ _) ?_
       refine evn (by decide) ?_
       rw [Int.toNat_natCast, Int.toNat_natCast]; exact h1
      ·refine evp (by omega) ?_
       rw [ew, ← hse]
       refine evp (by omega) (evp (by omega) (evp (by omega) ?_))
       refine Ev.congr (fun k => Option.bind_some _ _) ?_
       refine evp (by omega) (evp (by omega) (evn hre ?_))
       refine Ev.congr (fun k => Option.bind_some _ _) ?_
       refine evp (by omega) (evp hleaf ?_)
       rw [Int.toNat_natCast, Int.toNat_natCast]; exact h2
     ·obtain ⟨r, h1, h2⟩ := ih (reached.set j true) (stack.take (stack.length - 1) ++ [(rd_T71 ns (j : Int)).f6, (rd_T71 ns (j : Int)).f7]) hlen (by
        intro s h
        rcases List.mem_append.1 h with h | h
        ·exact htm s h
        ·rcases List.mem_cons.1 h with rfl | h
         ·exact ⟨by omega, k6'⟩
         ·rcases List.mem_cons.1 h with rfl | h
          ·exact ⟨by omega, k7'⟩
          ·cases h) (by rw [List.length_append, ht]; simp only [List.length_cons, List.length_nil]; omega)
      refine ⟨r, Ev.step (f := fun k => _) (fun k => rfl) ?_, Ev.step (f := fun k => _) (fun k => rfl) ?_⟩
      ·refine evp (by omega) ?_
       rw [ew, ← hse]
       refine evp (by omega) (evp (by omega) (evp (by omega) ?_))
       refine Ev.congr (fun k => Option.bind_some _ _) ?_
       refine evp (by omega) (evp (by omega) (evn hre ?_))
       refine Ev.congr (fun k => Option.bind_some _ _) ?_
       refine evp (by omega) ?_
       have hi : trees_inner.f (rd_T71 ns (j : Int)).f0 (rd_T71 ns (j : Int)).f1 (rd_T71 ns (j : Int)).f2 (rd_T71 ns (j : Int)).f3 (rd_T71 ns (j : Int)).f4 (rd_T71 ns (j : Int)).f5 (rd_T71 ns (j : Int)).f6 (rd_T71 ns (j : Int)).f7 = some true := by
        unfold trees_inner.f
        rcases hin with h | h
        ·rw [if_pos h]
        ·rw [if_neg (by omega), beq_iff_eq.mpr h]
       rw [hi]
       refine Ev.congr (fun k => Option.bind_some _ _) ?_
       refine evp rfl ?_
       refine Ev.congr (fun k => Option.bind_some _ _) ?_
       refine evp (by simp only [Int.toNat_natCast, ht, List.length_cons, List.length_nil]; omega) ?_
       rw [Int.toNat_natCast, Int.toNat_natCast]; exact h1
      ·refine evp (by omega) ?_
       rw [ew, ← hse]
       refine evp (by omega) (evp (by omega) (evp (by omega) ?_))
       refine Ev.congr (fun k => Option.bind_some _ _) ?_
       refine evp (by omega) (evp (by omega) (evn hre ?_))
       refine Ev.congr (fun k => Option.bind_some _ _) ?_
       refine evp (by omega) (evn (by omega) ?_)
       refine Ev.congr (fun k => Option.bind_some _ _) ?_
       refine evp (by simp only [Int.toNat_natCast, ht, List.length_cons, List.length_nil]; omega) ?_
       rw [Int.toNat_natCast, Int.toNat_natCast]; exact h2

theorem shape_l0 (hn : ns.length ≤ 1759218604441) (hz : ns.length ≠ 0) (hcats : ∀ y ∈ ns, y.f4.length ≤ 9223372036854775807) : ∀ (d i : Nat) (above : List Int), i + d = ns.length → above.length = ns.length → (∀ j : Nat, j < i → rightB (rd_T71 ns (j : Int)) (ns.length : Int) = true) →
  ∃ r, Ev (fun k => trees_Shape.l0 k above ns (ns.length : Int) (i : Int) t0 ns) r ∧ Ev (fun k => thicketref07_Shape.l0 k (ns.length : Int) above ns (ns.length : Int) (i : Int) t0 ns) r := by
 intro d
 induction d with
 | zero =>
  intro i above hi ha hr
  obtain rfl : i = ns.length := by omega
  have hc : 2 * (List.replicate ns.length false).countP (fun b => !b) + ([0] : List Int).length ≤ 2 * ns.length + 1 := by
   have h := List.countP_le_length (p := fun b : Bool => !b) (l := List.replicate ns.length false)
   rw [List.length_replicate] at h
   simp only [List.length_cons, List.length_nil]
   omega
  ·have hs0 : ∀ s ∈ ([0] : List Int), 0 ≤ s ∧ s < (ns.length : Int) := by
    intro s h
    obtain rfl : s = 0 := by simpa using h
    omega
   obtain ⟨r, h1, h2⟩ := shape_l1 t0 ns above ha hn hr (2 * ns.length + 1) (by omega) (List.replicate ns.length false) [0] (List.length_replicate) hs0 hc
   refine ⟨r, Ev.step (f := fun k => _) (fun k => rfl) ?_, Ev.step (f := fun k => _) (fun k => rfl) ?_⟩
   ·refine evn (by omega) (evp (by omega) (evp (by omega) ?_))
    rw [Int.toNat_natCast]; exact h1
   ·refine evn (by omega) (evp (by omega) (evp (by omega) ?_))
    rw [Int.toNat_natCast]; exact h2
 | succ d ih =>
  intro i above hi ha hr
  have e1 : wrap64 ((i : Int) + 1) = ((i + 1 : Nat) : Int) := by unfold wrap64; omega
  have hmem : rd_T71 ns (i : Int) ∈ ns := by
   unfold rd_T71
   rw [Int.toNat_natCast, List.getD_eq_getElem?_getD, List.getElem?_eq_getElem (by omega)]
   exact List.getElem_mem (by omega)
  have hl := hcats _ hmem
  have gT := rightT (rd_T71 ns (i : Int)) (ns.length : Int) hl
  have g7 := right07 (rd_T71 ns (i : Int)) (ns.length : Int) hl
  cases hb : rightB (rd_T71 ns (i : Int)) (ns.length : Int) with
  | false =>
   rw [hb] at gT g7
   refine ⟨(71, (i : Int)), Ev.step (f := fun k => _) (fun k => rfl) ?_, Ev.step (f := fun k => _) (fun k => rfl) ?_⟩
   ·refine evp (by omega) (evp (by omega) (evp (by omega) ?_))
    exact Ev.bind gT (evn (by decide) (Ev.now _))
   ·refine evp (by omega) (evp (by omega) (evp (by omega) ?_))
    exact Ev.bind g7 (evn (by decide) (Ev.now _))
  | true =>
   rw [hb] at gT g7
   have hr' : ∀ j : Nat, j < i + 1 → rightB (rd_T71 ns (j : Int)) (ns.length : Int) = true := by
    intro j hj
    by_cases e : j = i
    ·subst e; exact hb
    ·exact hr j (by omega)
   rcases right_kids hb with hleaf | ⟨hin, k6, k6', k7, k7'⟩
   ·obtain ⟨r, h1, h2⟩ := ih (i + 1) above (by omega) ha hr'
    refine ⟨r, Ev.step (f := fun k => _) (fun k => rfl) ?_, Ev.step (f := fun k => _) (fun k => rfl) ?_⟩
    ·refine evp (by omega) (evp (by omega) (evp (by omega) ?_))
     refine Ev.bind gT (evp rfl ?_)
     have hi : trees_inner.f (rd_T71 ns (i : Int)).f0 (rd_T71 ns (i : Int)).f1 (rd_T71 ns (i : Int)).f2 (rd_T71 ns (i : Int)).f3 (rd_T71 ns (i : Int)).f4 (rd_T71 ns (i : Int)).f5 (rd_T71 ns (i : Int)).f6 (rd_T71 ns (i : Int)).f7 = some false := by
      unfold trees_inner.f
      rw [if_neg (by omega), beq_eq_false_iff_ne.mpr (by omega)]
     rw [hi]
     refine Ev.congr (fun k => Option.bind_some _ _) ?_
     refine evn (by decide) ?_
     rw [e1]; exact h1
    ·refine evp (by omega) (evp (by omega) (evp (by omega) ?_))
     refine Ev.bind g7 (evp rfl (evp hleaf ?_))
     rw [e1]; exact h2
   ·obtain ⟨y1, hy1⟩ : ∃ y1, y1 = above.set (rd_T71 ns (i : Int)).f6.toNat (wrap64 (rd above (rd_T71 ns (i : Int)).f6 + 1)) := ⟨_, rfl⟩
    have hy1l : y1.length = ns.length := by rw [hy1, List.length_set]; exact ha
    obtain ⟨r, h1, h2⟩ := ih (i + 1) (y1.set (rd_T71 ns (i : Int)).f7.toNat (wrap64 (rd y1 (rd_T71 ns (i : Int)).f7 + 1))) (by omega) (by rw [List.length_set]; exact hy1l) hr'
    refine ⟨r, Ev.step (f := fun k => _) (fun k => rfl) ?_, Ev.step (f := fun k => _) (fun k => rfl) ?_⟩
    ·refine evp (by omega) (evp (by omega) (evp (by omega) ?_))
     refine Ev.bind gT (evp rfl ?_)
     have hi : trees_inner.f (rd_T71 ns (i : Int)).f0 (rd_T71 ns (i : Int)).f1 (rd_T71 ns (i : Int)).f2 (rd_T71 ns (i : Int)).f3 (rd_T71 ns (i : Int)).f4 (rd_T71 ns (i : Int)).f5 (rd_T71 ns (i : Int)).f6 (rd_T71 ns (i : Int)).f7 = some true := by
      unfold trees_inner.f
      rcases hin with h | h
      ·rw [if_pos h]
      ·rw [if_neg (by omega), beq_iff_eq.mpr h]
     rw [hi]
     refine Ev.congr (fun k => Option.bind_some _ _) ?_
     refine evp rfl (evp (by omega) (evp (by omega) ?_))
     refine Ev.congr (fun k => Option.bind_some _ _) ?_
     refine evp (by omega) (evp (by omega) ?_)
     rw [e1, ← hy1]; exact h1
    ·refine evp (by omega) (evp (by omega) (evp (by omega) ?_))
     refine Ev.bind g7 (evp rfl (evn (by omega) (evp (by omega) (evp (by omega) ?_))))
     refine Ev.congr (fun k => Option.bind_some _ _) ?_
     refine evp (by omega) (evp (by omega) ?_)
     rw [e1, ← hy1]; exact h2

/-- What the program's Shape answers, the document's answers. -/
theorem shape_both (hn : ns.length ≤ 1759218604441) (hcats : ∀ y ∈ ns, y.f4.length ≤ 9223372036854775807) : ∃ r, (∃ k, trees_Shape.f k t0 ns = some r) ∧ ∃ k, thicketref07_Shape.f k t0 ns = some r := by
 by_cases hz : ns.length = 0
 ·refine ⟨(70, 0), ⟨0, ?_⟩, ⟨0, ?_⟩⟩
  ·unfold trees_Shape.f; rw [if_pos (by omega)]
  ·unfold thicketref07_Shape.f; rw [if_pos (by omega)]
 ·obtain ⟨r, h1, h2⟩ := shape_l0 t0 ns hn hz hcats ns.length 0 (List.replicate ns.length 0) (by omega) (List.length_replicate) (fun j h => absurd h (Nat.not_lt_zero _))
  obtain ⟨k1, h1⟩ := h1.rounds
  obtain ⟨k2, h2⟩ := h2.rounds
  refine ⟨r, ⟨k1, ?_⟩, ⟨k2, ?_⟩⟩
  ·unfold trees_Shape.f
   rw [if_neg (by omega), if_pos (by omega), if_pos (by omega), Int.toNat_natCast]
   exact h1
  ·unfold thicketref07_Shape.f
   rw [if_neg (by omega), if_pos (by omega), if_pos (by omega), Int.toNat_natCast]
   exact h2
end
theorem shape07V (y : S53) (hn : y.f1.length ≤ 1759218604441) (hcats : ∀ x ∈ y.f1, x.f4.length ≤ 9223372036854775807) : ∃ k, thicketref07_Shape.f k y.f0 y.f1 = some (shapeV y) := by
 obtain ⟨r, ⟨k1, h1⟩, k2, h2⟩ := shape_both y.f0 y.f1 hn hcats
 obtain ⟨⟨k3, h3⟩, _⟩ := shapeV_spec y hn hcats
 have e : r = shapeV y := by
  obtain ⟨K1, e1⟩ := Ev.of (fun k => trees_Shape.mono y.f0 y.f1 k) h1
  obtain ⟨K2, e2⟩ := Ev.of (fun k => trees_Shape.mono y.f0 y.f1 k) h3
  exact Option.some.inj ((e1 (K1 + K2) (by omega)).symm.trans (e2 (K1 + K2) (by omega)))
 exact ⟨k2, e ▸ h2⟩
end Go.Proofs.Ytfmjgjfbnilpoaa.FAll
