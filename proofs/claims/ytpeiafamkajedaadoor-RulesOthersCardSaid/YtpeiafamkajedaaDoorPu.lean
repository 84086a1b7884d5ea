/-
  Plain: a tree whose nodes are numbered anew in the order of 'all' is as right as it was.
-/
import Derived.Test.YtpeiafamkajedaaDoorCm
import Derived.Test.YtpeiafamkajedaaDoorPg
import Derived.Test.YtpeiafamkajedaaDoorPk
import Derived.Test.YtpeiafamkajedaaDoorPw
import Derived.Test.YtpeiafamkajedaaDoorPz
namespace Go.Proofs.YtpeiafamkajedaaDoor.FAll
open Go.RowKit Go.Proofs.YtpeiafamkajedaaDoorW.PrintWords Go.Proofs.YtpeiafamkajedaaDoorW.PrintLast Go.Proofs.YtpeiafamkajedaaDoorW.PrintMore BTree
set_option linter.unusedVariables false
set_option linter.unusedSimpArgs false
set_option linter.unusedSectionVars false
theorem ite_zero {c : Prop} [Decidable c] {a b : Int} (hb : b ≠ 0) (h : (if c then a else b) = 0) : c ∧ a = 0 := by
  by_cases hc : c
  · rw [if_pos hc] at h; exact ⟨hc, h⟩
  · rw [if_neg hc] at h; exact absurd h hb
def sumL : List Int → Int
  | [] => 0
  | a :: l => a + sumL l
theorem sumL_perm {a b : List Int} (h : a.Perm b) : sumL a = sumL b := by
  induction h with
  | nil => rfl
  | cons x _ ih => unfold sumL; rw [ih]
  | swap x y l => unfold sumL; unfold sumL; omega
  | trans _ _ ih1 ih2 => rw [ih1, ih2]
theorem kidsC_sum (ns : List S65) (x : Int) : ∀ d i : Nat, kidsC ns d i x = sumL ((List.range' i d).map fun j : Nat => kidC (rd_T65 ns (j : Int)) x)
  | 0, _ => rfl
  | d + 1, i => by
    rw [List.range'_succ, List.map_cons]
    unfold kidsC sumL
    rw [kidsC_sum ns x d (i + 1)]
theorem getD_range (P : List Nat) : (List.range P.length).map (fun i => P.getD i 0) = P := by
  apply List.ext_getElem?
  intro j
  rw [List.getElem?_map]
  by_cases h : j < P.length
  · rw [List.getElem?_range h, List.getElem?_eq_getElem h]
    show some (P.getD j 0) = _
    rw [List.getD_eq_getElem?_getD, List.getElem?_eq_getElem h]
    rfl
  · rw [List.getElem?_eq_none (by simp; omega), List.getElem?_eq_none (by omega)]
    rfl
theorem idx_iff {P : List Nat} (hd : P.Nodup) {a m : Nat} (ha : a ∈ P) (hm : m < P.length) : P.idxOf a = m ↔ a = P.getD m 0 := by
  have e : P.getD m 0 = P[m] := by rw [List.getD_eq_getElem?_getD, List.getElem?_eq_getElem hm]; rfl
  rw [e]
  constructor
  · intro h
    subst h
    exact (List.getElem_idxOf (List.idxOf_lt_length_of_mem ha)).symm
  · intro h
    have := hd.idxOf_getElem m hm
    rw [h]
    exact this
theorem rd_mem {ns : List S65} {j : Nat} (h : j < ns.length) : rd_T65 ns (j : Int) ∈ ns := by
  unfold rd_T65
  rw [Int.toNat_natCast, List.getD_eq_getElem?_getD, List.getElem?_eq_getElem h]
  exact List.getElem_mem h
theorem inn_ne {ns : List S65} (tf : TreeFine ns) {j : Nat} (hj : j < ns.length) (h : (rd_T65 ns (j : Int)).f0 ≠ 1) : innerB (rd_T65 ns (j : Int)) = true := by
  rcases right_kids (tf.fit j hj) with h1 | ⟨h1, _⟩
  · exact absurd h1 h
  · unfold innerB
    rcases h1 with h1 | h1 <;> rw [h1] <;> rfl
theorem ne_inn {y : S65} (h : innerB y = true) : y.f0 ≠ 1 := by
  intro e
  unfold innerB at h
  rw [e] at h
  cases h
/-- Every node is in the tree. -/
theorem cover {ns : List S65} {T : BT} {t0 : Int} {k : Nat} (hT : TreeIs ns T) (tf : TreeFine ns) (hn : ns.length ≤ 1759218604441) (hk : trees_Shape.f k t0 ns = some (0, 0)) : ∀ j, j < ns.length → j ∈ T.pre := by
  refine shape_reach t0 ns (fun j => j ∈ T.pre) ?_ ?_ hn k (0, 0) hk rfl
  · have h := BT.root_mem T
    rwa [hT.root] at h
  · intro j hj hm hi
    exact hT.is.closed j hm hi
section
variable {ns : List S65} {T : BT} (hT : TreeIs ns T) (tf : TreeFine ns)
include hT tf
theorem pre_nodup : T.pre.Nodup := hT.is.nodup (fine_of tf) T [0] (by rw [hT.root]; exact .root)
variable (hcv : ∀ j, j < ns.length → j ∈ T.pre)
include hcv
theorem pre_perm : T.pre.Perm (List.range ns.length) := (List.perm_ext_iff_of_nodup (pre_nodup hT tf) List.nodup_range).2 (fun a => ⟨fun h => List.mem_range.2 (hT.is.lt T a h), fun h => hcv a (List.mem_range.1 h)⟩)
omit tf hcv in
theorem pre_head : T.pre.getD 0 0 = 0 := by
  have h := hT.root
  cases T with
  | leaf i => exact h
  | node i l r => exact h
theorem pre_at {m : Nat} (hm : m < ns.length) : T.pre.getD m 0 < ns.length := by
  have hl := pre_len hT hcv
  rw [List.getD_eq_getElem?_getD, List.getElem?_eq_getElem (by omega)]
  exact hT.is.lt T _ (List.getElem_mem _)
theorem idx_at {a m : Nat} (ha : a < ns.length) (hm : m < ns.length) : T.pre.idxOf a = m ↔ a = T.pre.getD m 0 :=
  idx_iff (pre_nodup hT tf) (hcv a ha) (by rw [pre_len hT hcv]; exact hm)
theorem idx_rng {a : Nat} (h1 : 1 ≤ a) (h2 : a < ns.length) : 1 ≤ T.pre.idxOf a ∧ T.pre.idxOf a < ns.length := by
  have hl := List.idxOf_lt_length_of_mem (hcv a h2)
  rw [pre_len hT hcv] at hl
  refine ⟨?_, hl⟩
  by_cases h : T.pre.idxOf a = 0
  · have := (idx_at hT tf hcv h2 (by omega)).1 h
    rw [pre_head hT] at this
    omega
  · omega
theorem canon_rd {m : Nat} (hm : m < ns.length) : rd_T65 (canonL ns T.pre) (m : Int) = cnN T.pre (rd_T65 ns ((T.pre.getD m 0 : Nat) : Int)) := by
  have hl := pre_len hT hcv
  unfold canonL
  have e : T.pre.getD m 0 = T.pre[m] := by rw [List.getD_eq_getElem?_getD, List.getElem?_eq_getElem (by omega)]; rfl
  rw [e]
  show ((T.pre.map _).getD (m : Int).toNat _) = _
  rw [Int.toNat_natCast, List.getD_eq_getElem?_getD, List.getElem?_map, List.getElem?_eq_getElem (by omega)]
  rfl
omit hcv in
theorem kids_at {j : Nat} (hj : j < ns.length) (hi : innerB (rd_T65 ns (j : Int)) = true) : ∃ a b : Nat, (rd_T65 ns (j : Int)).f6 = (a : Int) ∧ (rd_T65 ns (j : Int)).f7 = (b : Int) ∧ 1 ≤ a ∧ a < ns.length ∧ 1 ≤ b ∧ b < ns.length := by
  obtain ⟨k6, k6', k7, k7', _⟩ := kids_of tf hj hi
  exact ⟨_, _, (Int.toNat_of_nonneg (by omega)).symm, (Int.toNat_of_nonneg (by omega)).symm, by omega, by omega, by omega, by omega⟩
theorem kid_canon {j m : Nat} (hj : j < ns.length) (hm : m < ns.length) : kidC (cnN T.pre (rd_T65 ns (j : Int))) (m : Int) = kidC (rd_T65 ns (j : Int)) ((T.pre.getD m 0 : Nat) : Int) := by
  by_cases hi : innerB (rd_T65 ns (j : Int)) = true
  · obtain ⟨a, b, e6, e7, a1, a2, b1, b2⟩ := kids_at hT tf hj hi
    have h1 := idx_at hT tf hcv a2 hm
    have h2 := idx_at hT tf hcv b2 hm
    unfold cnN kidC
    rw [if_pos hi]
    show (if (rd_T65 ns (j : Int)).f0 = 1 then _ else _) = _
    rw [if_neg (ne_inn hi), if_neg (ne_inn hi)]
    show (if ((T.pre.idxOf (rd_T65 ns (j : Int)).f6.toNat : Nat) : Int) = (m : Int) then (1 : Int) else 0) + (if ((T.pre.idxOf (rd_T65 ns (j : Int)).f7.toNat : Nat) : Int) = (m : Int) then (1 : Int) else 0) = _
    rw [e6, e7, Int.toNat_natCast, Int.toNat_natCast]
    congr 1
    · by_cases h : T.pre.idxOf a = m
      · rw [if_pos (by omega), if_pos (by have := h1.1 h; omega)]
      · rw [if_neg (by omega), if_neg (fun h' => h (h1.2 (by omega)))]
    · by_cases h : T.pre.idxOf b = m
      · rw [if_pos (by omega), if_pos (by have := h2.1 h; omega)]
      · rw [if_neg (by omega), if_neg (fun h' => h (h2.2 (by omega)))]
  · have h0 : (rd_T65 ns (j : Int)).f0 = 1 := by
      by_cases h : (rd_T65 ns (j : Int)).f0 = 1
      · exact h
      · exact absurd (inn_ne tf hj h) hi
    unfold cnN kidC
    rw [if_neg hi, if_pos h0, if_pos h0]
theorem right_canon {j : Nat} (hj : j < ns.length) : rightB (cnN T.pre (rd_T65 ns (j : Int))) (ns.length : Int) = true := by
  have hr := tf.fit j hj
  unfold cnN
  split
  · rename_i hi
    obtain ⟨a, b, e6, e7, a1, a2, b1, b2⟩ := kids_at hT tf hj hi
    have h1 := idx_rng hT tf hcv a1 a2
    have h2 := idx_rng hT tf hcv b1 b2
    have hne := ne_inn hi
    rw [e6, e7, Int.toNat_natCast, Int.toNat_natCast]
    unfold rightB restB at hr ⊢
    simp only
    rw [if_neg hne] at hr ⊢
    by_cases e2 : (rd_T65 ns (j : Int)).f0 = 2
    · rw [if_pos e2] at hr ⊢
      simp only [Bool.and_eq_true, decide_eq_true_eq] at hr ⊢
      obtain ⟨q1, q2, q3, q4, q5, q6, _⟩ := hr
      exact ⟨q1, q2, q3, q4, q5, q6, by omega, by omega, by omega, by omega⟩
    · rw [if_neg e2] at hr ⊢
      by_cases e3 : (rd_T65 ns (j : Int)).f0 = 3
      · rw [if_pos e3] at hr ⊢
        simp only [Bool.and_eq_true, decide_eq_true_eq] at hr ⊢
        obtain ⟨q1, q2, q3, q4, q5, q6, _⟩ := hr
        exact ⟨q1, q2, q3, q4, q5, q6, by omega, by omega, by omega, by omega⟩
      · rw [if_neg e3] at hr
        cases hr
  · exact hr
theorem node_canon {nf j : Nat} (hj : j < ns.length) (h : nodeX nf (ns.length : Int) (rd_T65 ns (j : Int)) = 0) : nodeX nf (ns.length : Int) (cnN T.pre (rd_T65 ns (j : Int))) = 0 := by
  unfold cnN
  split
  · rename_i hi
    obtain ⟨a, b, e6, e7, a1, a2, b1, b2⟩ := kids_at hT tf hj hi
    have h1 := idx_rng hT tf hcv a1 a2
    have h2 := idx_rng hT tf hcv b1 b2
    have hne := ne_inn hi
    rw [e6, e7, Int.toNat_natCast, Int.toNat_natCast]
    have hs : ∀ a6 a7 c6 c7 : Int, spareB (rd_T65 ns (j : Int)).f0 (rd_T65 ns (j : Int)).f1 (rd_T65 ns (j : Int)).f2 (rd_T65 ns (j : Int)).f3 (rd_T65 ns (j : Int)).f4 (rd_T65 ns (j : Int)).f5 a6 a7 = spareB (rd_T65 ns (j : Int)).f0 (rd_T65 ns (j : Int)).f1 (rd_T65 ns (j : Int)).f2 (rd_T65 ns (j : Int)).f3 (rd_T65 ns (j : Int)).f4 (rd_T65 ns (j : Int)).f5 c6 c7 := by
      intro a6 a7 c6 c7
      unfold spareB
      rw [if_neg hne, if_neg hne]
    unfold nodeX nodeV at h ⊢
    simp only at h ⊢
    rw [hs _ _ (rd_T65 ns (j : Int)).f6 (rd_T65 ns (j : Int)).f7]
    obtain ⟨c1, h⟩ := ite_zero (by decide) h
    obtain ⟨c2, h⟩ := ite_zero (by decide) h
    obtain ⟨c3, h⟩ := ite_zero (by decide) h
    obtain ⟨c4, h⟩ := ite_zero (by decide) h
    obtain ⟨c5, h⟩ := ite_zero (by decide) h
    obtain ⟨c6, h⟩ := ite_zero (by decide) h
    rw [if_pos c1, if_pos c2, if_pos c3, if_pos c4, if_pos c5, if_pos c6, if_pos (decide_eq_true (.inr ⟨by omega, by omega, by omega, by omega⟩))]
  · exact h
theorem canon_len : (canonL ns T.pre).length = ns.length := by rw [canonL_length, pre_len hT hcv]
theorem once_canon {m : Nat} (hm : m < ns.length) : kidsC (canonL ns T.pre) ns.length 0 (m : Int) = if m = 0 then 0 else 1 := by
  have hl := pre_len hT hcv
  have h1 : ((List.range' 0 ns.length).map fun i : Nat => kidC (rd_T65 (canonL ns T.pre) (i : Int)) (m : Int)) = T.pre.map fun i : Nat => kidC (rd_T65 ns (i : Int)) ((T.pre.getD m 0 : Nat) : Int) := by
    have e : T.pre.map (fun i : Nat => kidC (rd_T65 ns (i : Int)) ((T.pre.getD m 0 : Nat) : Int)) = ((List.range T.pre.length).map (fun i => T.pre.getD i 0)).map (fun i : Nat => kidC (rd_T65 ns (i : Int)) ((T.pre.getD m 0 : Nat) : Int)) := by rw [getD_range]
    rw [e, List.map_map, hl, ← List.range_eq_range']
    refine List.map_congr_left fun i hi => ?_
    have hi' := List.mem_range.1 hi
    rw [canon_rd hT tf hcv hi', kid_canon hT tf hcv (pre_at hT tf hcv hi') hm]
    rfl
  rw [kidsC_sum, h1, sumL_perm ((pre_perm hT tf hcv).map _), List.range_eq_range', ← kidsC_sum, tf.once _ (pre_at hT tf hcv hm)]
  have h0 : (T.pre.getD m 0 = 0) ↔ m = 0 := by
    constructor
    · intro h
      have h2 := (idx_at hT tf hcv (a := 0) (by omega) hm).2 h.symm
      have h3 := (idx_at hT tf hcv (a := 0) (m := 0) (by omega) (by omega)).2 (pre_head hT).symm
      omega
    · intro h
      subst h
      exact pre_head hT
  by_cases h : m = 0
  · rw [if_pos h, if_pos (h0.2 h)]
  · rw [if_neg h, if_neg (fun h' => h (h0.1 h'))]
theorem fine_canon : TreeFine (canonL ns T.pre) where
  some := by rw [canon_len hT tf hcv]; exact tf.some
  fit := by
    intro j hj
    rw [canon_len hT tf hcv] at hj ⊢
    rw [canon_rd hT tf hcv hj]
    exact right_canon hT tf hcv (pre_at hT tf hcv hj)
  once := by
    intro j hj
    rw [canon_len hT tf hcv] at hj ⊢
    exact once_canon hT tf hcv hj
theorem reach_canon {t0 : Int} {k : Nat} (hn : ns.length ≤ 1759218604441) (hk : trees_Shape.f k t0 ns = some (0, 0)) : Reach (canonL ns T.pre) := by
  intro p p0 hp m hm
  rw [canon_len hT tf hcv] at hp hm
  have h := shape_reach t0 ns (fun i => p (T.pre.idxOf i)) ?_ ?_ hn k (0, 0) hk rfl (T.pre.getD m 0) (pre_at hT tf hcv hm)
  · have e := (idx_at hT tf hcv (pre_at hT tf hcv hm) hm).2 rfl
    rw [← e]
    exact h
  · have e := (idx_at hT tf hcv (a := 0) (m := 0) tf.some tf.some).2 (pre_head hT).symm
    show p (T.pre.idxOf 0)
    rw [e]
    exact p0
  · intro j hj hpj hi
    have hx : T.pre.idxOf j < ns.length := by
      have := List.idxOf_lt_length_of_mem (hcv j hj)
      rwa [pre_len hT hcv] at this
    have e := (idx_at hT tf hcv hj hx).1 rfl
    have h2 := hp _ hx hpj
    rw [canon_rd hT tf hcv hx, ← e] at h2
    have h3 := h2 (by unfold cnN; rw [if_pos hi]; exact ne_inn hi)
    unfold cnN at h3
    rw [if_pos hi] at h3
    exact h3
theorem canon_f4 (h : ∀ x ∈ ns, x.f4.length ≤ 9223372036854775807) : ∀ x ∈ canonL ns T.pre, x.f4.length ≤ 9223372036854775807 := by
  intro x hx
  unfold canonL at hx
  obtain ⟨i, hi, rfl⟩ := List.mem_map.1 hx
  have := h _ (rd_mem (hT.is.lt T i hi))
  unfold cnN
  split <;> exact this
theorem canon_shape {t0 : Int} {k : Nat} (hn : ns.length ≤ 1759218604441) (h4 : ∀ x ∈ ns, x.f4.length ≤ 9223372036854775807) (hk : trees_Shape.f k t0 ns = some (0, 0)) : ∃ k, trees_Shape.f k t0 (canonL ns T.pre) = some (0, 0) :=
  shape_ok t0 (canonL ns T.pre) (by rw [canon_len hT tf hcv]; exact hn) (canon_f4 hT tf hcv h4) (fine_canon hT tf hcv) (reach_canon hT tf hcv hn hk)
end
end Go.Proofs.YtpeiafamkajedaaDoor.FAll
