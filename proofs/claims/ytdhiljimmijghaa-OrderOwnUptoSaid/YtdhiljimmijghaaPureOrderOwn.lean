/-
  The plain law of OrderOwn, for lists of at most 1048576 numbers: lists are their asker's own.
-/
import Derived.Test.YtdhiljimmijghaaOs
import Derived.Test.YtdhiljimmijghaaFAllx
namespace Go.Proofs.Ytdhiljimmijghaa.Pure
open Go.Sort Go.RowKit Go.Proofs.Ytdhiljimmijghaa Go.Proofs.Ytdhiljimmijghaa.FAll Go.Proofs.YtdhiljimmijghaaW.PrintWords Go.Proofs.YtdhiljimmijghaaW.PrintLast Go.Proofs.YtdhiljimmijghaaW.PrintMore
set_option linter.unusedVariables false
set_option linter.unusedSimpArgs false
theorem bz_ofo (l : List Int) (h : ∀ x ∈ l, (Lit.int .u64 x).wf = true) : ∃ m : List Nat, l = bz m ∧ ∀ x ∈ m, x < 2 ^ 64 := by
  have hw : ∀ x ∈ l, 0 ≤ x ∧ x < 18446744073709551616 := fun x hx => by
    have := h x hx
    have h2 : IntKind.u64.min ≤ x ∧ x ≤ IntKind.u64.max := by simpa [Lit.wf] using this
    have e1 : IntKind.u64.min = 0 := rfl
    have e2 : IntKind.u64.max = 18446744073709551615 := rfl
    omega
  refine ⟨l.map Int.toNat, ?_, ?_⟩
  · unfold bz
    rw [List.map_map]
    conv => lhs; rw [← List.map_id l]
    refine List.map_congr_left fun x hx => ?_
    have := hw x hx
    simp only [Function.comp, id, Int.ofNat_eq_natCast]
    omega
  · intro x hx
    obtain ⟨y, hy, rfl⟩ := List.mem_map.1 hx
    have := hw y hy
    omega
theorem last_get (x : List Nat) (c : Nat) : rdOf (0 : Nat) (x ++ [c]) ((x.length : Nat) : Int) = c := by
  rw [rdOf_nat _ _ (by simp)]; simp
theorem k1 : fkey 4607182418800017408 = 13826050856027422720 := by decide +kernel
theorem k2 : fkey 4611686018427387904 = 13830554455654793216 := by decide +kernel
theorem OrderOwn (l0 : List Int) (h1 : l0.length ≤ 1048576) (h3 : ∀ x ∈ l0, (Lit.int .u64 x).wf = true) : ∃ k, thicketlaw06_OrderOwn.f k l0 = some true := by
  obtain ⟨m, rfl, hm⟩ := bz_ofo l0 h3
  rw [List.length_map] at h1
  obtain ⟨g, hg⟩ : ∃ g, g = m ++ [4607182418800017408, 4611686018427387904] := ⟨_, rfl⟩
  have hgl : g.length = m.length + 2 := by rw [hg]; simp
  have hgw : ∀ x ∈ g, x < 2 ^ 64 := by
    intro x hx
    rw [hg] at hx
    rcases List.mem_append.1 hx with hx | hx
    · exact hm x hx
    · simp only [List.mem_cons, List.not_mem_nil, or_false] at hx
      omega
  obtain ⟨S, hS⟩ : ∃ S, S = sortL ltK g := ⟨_, rfl⟩
  obtain ⟨D, hD⟩ : ∃ D, D = distinctL g := ⟨_, rfl⟩
  have hSl : S.length = g.length := by rw [hS]; exact sortL_len g
  have hDl : D.length ≤ g.length := by rw [hD]; exact distinctL_len g
  have hD2 : 2 ≤ D.length := by
    have hk := keysL_of g
    have m1 : (13826050856027422720 : Int) ∈ keysL g := (hk.mem _).2 ⟨4607182418800017408, by rw [hg]; simp, by decide +kernel, k1⟩
    have m2 : (13830554455654793216 : Int) ∈ keysL g := (hk.mem _).2 ⟨4611686018427387904, by rw [hg]; simp, by decide +kernel, k2⟩
    rw [hD]
    unfold distinctL
    rw [List.length_map]
    match h : keysL g with
    | [] => rw [h] at m1; simp at m1
    | [a] => rw [h] at m1 m2; simp only [List.mem_singleton] at m1 m2; omega
    | a :: b :: r => simp
  have hcnt : ((cntK (fkey 9218868437227405312) g : Nat) : Int) ≥ 2 := by
    have : fkey 9218868437227405312 = 18437736874454810624 := by decide +kernel
    rw [this, hg]
    unfold cntK
    rw [List.filter_append, List.length_append]
    have : ([4607182418800017408, 4611686018427387904].filter fun x => decide (fkey x < 18437736874454810624)) = [4607182418800017408, 4611686018427387904] := by
      simp only [List.filter_cons, k1, k2]
      decide
    rw [this]
    simp only [List.length_cons, List.length_nil]
    omega
  have hrdS : ∀ i, i < S.length → f64bits (rdOf (0 : Nat) S (i : Int)) = ((S[i]! : Nat) : Int) := fun i hi => by
    rw [rdOf_nat S i hi]
    simp [f64bits, hi]
  -- the last loop
  have L4 : ∀ A C : List Nat, A.length = S.length → C.length = D.length → Ev (fun k => thicketlaw06_OrderOwn.l4 k g (A ++ [13840687554816376832]) (C ++ [13841813454723219456]) (bz (S ++ D)) (S ++ D) 0) true := by
    intro A C hA hC
    refine countUp (γ := Unit) (g := fun _ j k => thicketlaw06_OrderOwn.l4 k g (A ++ [13840687554816376832]) (C ++ [13841813454723219456]) (bz (S ++ D)) (S ++ D) j) (n := (S ++ D).length) (st := fun _ => ()) ?_ ?_
    · intro j hj H
      refine Ev.step (fun k => thicketlaw06_OrderOwn.l4.eq_2 g _ _ _ _ _ k) (Ev.pos (by omega) (Ev.pos (by omega) (Ev.pos (by rw [List.length_map]; omega) (Ev.pos ?_ ?_))))
      · rw [rdOf_nat _ j hj, rd_bz _ j hj]; rfl
      · rw [w1 (n := (S ++ D).length) hj (by rw [List.length_append]; omega)]; exact H
    · have e1 : wrap64 ((g.length : Int) - 1) = ((m.length + 1 : Nat) : Int) := by rw [w64 (by omega) (by omega)]; omega
      have e2 : wrap64 ((g.length : Int) - 2) = ((m.length : Nat) : Int) := by rw [w64 (by omega) (by omega)]; omega
      have e3 : wrap64 (((A ++ [13840687554816376832]).length : Int) - 1) = ((A.length : Nat) : Int) := by rw [List.length_append, List.length_singleton, w64 (by omega) (by omega)]; omega
      have e4 : wrap64 (((C ++ [13841813454723219456]).length : Int) - 1) = ((C.length : Nat) : Int) := by rw [List.length_append, List.length_singleton, w64 (by omega) (by omega)]; omega
      have r1 : rdOf (0 : Nat) g ((m.length + 1 : Nat) : Int) = 4611686018427387904 := by rw [rdOf_nat g _ (by omega)]; simp [hg]
      have r2 : rdOf (0 : Nat) g ((m.length : Nat) : Int) = 4607182418800017408 := by rw [rdOf_nat g _ (by omega)]; simp [hg]
      refine Ev.step (fun k => thicketlaw06_OrderOwn.l4.eq_2 g _ _ _ _ _ k) (Ev.neg (by omega) ?_)
      rw [e1, e2, e3, e4, r1, r2, last_get, last_get]
      refine Ev.pos (by omega) (Ev.pos (by omega) (Ev.pos (by decide +kernel) (Ev.pos (by omega) (Ev.pos (by omega) (Ev.pos (by decide +kernel) (Ev.pos (by omega) (Ev.pos (by simp; omega) (Ev.pos (by decide +kernel) (Ev.pos (by omega) (Ev.pos (by simp; omega) (Ev.pos (by decide +kernel) ?_)))))))))))
      refine Ev.bindc (v := 9218868437227405312) (by decide +kernel) (Ev.bind (below_ev g (by omega) hgw (by decide)) (Ev.some_ (by simpa using hcnt)))
  have L3 : ∀ n i, i + n = D.length → ∀ A C : List Nat, A.length = S.length → C.length = D.length → Ev (fun k => thicketlaw06_OrderOwn.l3 k g A S C D (bz (S ++ D)) (i : Int)) true := by
    intro n
    induction n with
    | zero =>
      intro i hi A C hA hC
      refine Ev.step (fun k => thicketlaw06_OrderOwn.l3.eq_2 g A S C D _ _ k) (Ev.neg (by omega) (Ev.pos (by omega) (Ev.pos (by omega) (Ev.bindc rfl (Ev.pos (by simp; omega) (Ev.bindc rfl (Ev.pos (by simp; omega) ?_)))))))
      simpa using L4 A C hA hC
    | succ n ih =>
      intro i hi A C hA hC
      refine Ev.step (fun k => thicketlaw06_OrderOwn.l3.eq_2 g A S C D _ _ k) (Ev.pos (by omega) (Ev.pos (by omega) ?_))
      rw [w1 (n := D.length) (by omega) (by omega)]
      exact ih (i + 1) (by omega) A _ hA (by rw [List.length_set]; exact hC)
  have L2 : ∀ n i, i + n = S.length → ∀ A : List Nat, A.length = S.length → Ev (fun k => thicketlaw06_OrderOwn.l2 k g A S D D (bz (S ++ D)) (i : Int)) true := by
    intro n
    induction n with
    | zero =>
      intro i hi A hA
      refine Ev.step (fun k => thicketlaw06_OrderOwn.l2.eq_2 g A S D D _ _ k) (Ev.neg (by omega) ?_)
      exact L3 D.length 0 (by omega) A D hA rfl
    | succ n ih =>
      intro i hi A hA
      refine Ev.step (fun k => thicketlaw06_OrderOwn.l2.eq_2 g A S D D _ _ k) (Ev.pos (by omega) (Ev.pos (by omega) ?_))
      rw [w1 (n := S.length) (by omega) (by omega)]
      exact ih (i + 1) (by omega) _ (by rw [List.length_set]; exact hA)
  have L1 : Ev (fun k => thicketlaw06_OrderOwn.l1 k g S S D D (bz S) 0) true := by
    have := countUp (γ := List Int) (g := fun x j k => thicketlaw06_OrderOwn.l1 k g S S D D x j) (n := D.length) (st := fun j => bz (S ++ D.take j)) (v := true) ?_ ?_
    · simpa using this
    · intro j hj H
      refine Ev.step (fun k => thicketlaw06_OrderOwn.l1.eq_2 g S S D D _ _ k) (Ev.pos (by omega) (Ev.pos (by omega) (Ev.pos (by rw [List.length_map, List.length_append, List.length_take]; omega) ?_)))
      rw [w1 (n := D.length) hj (by omega), rdOf_nat D j hj]
      rw [List.take_succ_eq_append_getElem hj] at H
      have e : bz (S ++ D.take j) ++ [f64bits D[j]] = bz (S ++ (D.take j ++ [D[j]])) := by simp only [bz, f64bits, List.map_append, List.map_cons, List.map_nil, List.append_assoc]; rfl
      rw [e]
      exact H
    · refine Ev.step (fun k => thicketlaw06_OrderOwn.l1.eq_2 g S S D D _ _ k) (Ev.neg (by omega) ?_)
      rw [List.take_length]
      exact L2 S.length 0 (by omega) S rfl
  have L0 : Ev (fun k => thicketlaw06_OrderOwn.l0 k g S S D D [] 0) true := by
    have := countUp (γ := List Int) (g := fun x j k => thicketlaw06_OrderOwn.l0 k g S S D D x j) (n := S.length) (st := fun j => bz (S.take j)) (v := true) ?_ ?_
    · simpa using this
    · intro j hj H
      refine Ev.step (fun k => thicketlaw06_OrderOwn.l0.eq_2 g S S D D _ _ k) (Ev.pos (by omega) (Ev.pos (by omega) (Ev.pos (by rw [List.length_map, List.length_take]; omega) ?_)))
      rw [w1 (n := S.length) hj (by omega), rdOf_nat S j hj]
      rw [List.take_succ_eq_append_getElem hj] at H
      have e : bz (S.take j) ++ [f64bits S[j]] = bz (S.take j ++ [S[j]]) := by simp only [bz, f64bits, List.map_append, List.map_cons, List.map_nil, List.append_assoc]; rfl
      rw [e]
      exact H
    · refine Ev.step (fun k => thicketlaw06_OrderOwn.l0.eq_2 g S S D D _ _ k) (Ev.neg (by omega) ?_)
      rw [List.take_length]
      exact L1
  have hs2 : order_Sorted.f g = some S := by unfold order_Sorted.f; rw [if_pos (by omega), hS]; rfl
  have hd2 : order_Distinct.f g = some D := by unfold order_Distinct.f; rw [if_pos ⟨by omega, hgw⟩, hD]; rfl
  refine Ev.rounds ?_
  unfold thicketlaw06_OrderOwn.f
  refine Ev.bindc (v := true) (by decide +kernel) (Ev.pos rfl (Ev.bind (list_ev m (by omega)) (Ev.bindc rfl (Ev.pos (by simp; omega) (Ev.bindc (v := g) (by rw [hg]) ?_)))))
  refine Ev.bindc hs2 (Ev.bindc hs2 (Ev.bindc hd2 (Ev.bindc hd2 (Ev.pos rfl (Ev.pos rfl (Ev.pos (by omega) ?_))))))
  refine Ev.step (fun k => thicketlaw06_OrderOwn.j0.eq_2 g S S D D _ k) (Ev.neg (by simp; omega) L0)
end Go.Proofs.Ytdhiljimmijghaa.Pure
