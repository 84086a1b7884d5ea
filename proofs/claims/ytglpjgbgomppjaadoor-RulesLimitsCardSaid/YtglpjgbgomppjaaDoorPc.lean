/-
  Plain: a comb of leaves is a tree; so many names, each another one.
-/
import Derived.Test.YtglpjgbgomppjaaDoorPk
import Derived.Test.YtglpjgbgomppjaaDoorPz
import Derived.Test.YtglpjgbgomppjaaDoorFAllx5
namespace Go.Proofs.YtglpjgbgomppjaaDoor.FAll
open Go.RowKit Go.Proofs.YtglpjgbgomppjaaDoorW.PrintWords Go.Proofs.YtglpjgbgomppjaaDoorW.PrintLast Go.Proofs.YtglpjgbgomppjaaDoorW.PrintMore
set_option linter.unusedVariables false
set_option linter.unusedSimpArgs false
def numN (i : Nat) : S40 := ⟨2, 0, 0, 4607182418800017408, [], 1, 2 * (i : Int) + 1, 2 * (i : Int) + 2⟩
def leafN : S40 := ⟨1, 1, 0, 0, [], 0, 0, 0⟩
def combN : Nat → List S40
  | 0 => []
  | m + 1 => combN m ++ [numN m, leafN]
/-- A comb of m + 1 leaves. -/
def combL (m : Nat) : List S40 := combN m ++ [leafN]
theorem combN_length (m : Nat) : (combN m).length = 2 * m := by
  induction m with
  | zero => rfl
  | succ m ih => unfold combN; rw [List.length_append, ih]; simp only [List.length_cons, List.length_nil]; omega
theorem combL_length (m : Nat) : (combL m).length = 2 * m + 1 := by unfold combL; rw [List.length_append, combN_length]; rfl
theorem comb_ev (m : Nat) (hm : m ≤ 100000) : ∀ d i : Nat, i + d = m → Ev (fun k => thicketlaw08_comb.l0 k ((m + 1 : Nat) : Int) (combN i) (i : Int)) ((0 : Int), combL m) := by
  intro d
  induction d with
  | zero =>
    intro i hi
    obtain rfl : i = m := by omega
    have e1 : wrap64 ((i : Int) + 1) = ((i + 1 : Nat) : Int) := by unfold wrap64; omega
    refine Ev.step (f := fun k => _) (fun k => rfl) ?_
    refine evn (by rw [e1]; omega) (evp (by rw [combN_length]; omega) ?_)
    exact Ev.now _
  | succ d ih =>
    intro i hi
    have e1 : wrap64 ((i : Int) + 1) = ((i + 1 : Nat) : Int) := by unfold wrap64; omega
    have e2 : wrap64 (wrap64 (2 * (i : Int)) + 1) = 2 * (i : Int) + 1 := by unfold wrap64; omega
    have e3 : wrap64 (wrap64 (2 * (i : Int)) + 2) = 2 * (i : Int) + 2 := by unfold wrap64; omega
    refine Ev.step (f := fun k => _) (fun k => rfl) ?_
    refine evp (by rw [e1]; omega) ?_
    refine Ev.congr (fun k => Option.bind_some _ _) ?_
    refine evp (by rw [combN_length]; simp only [List.length_cons, List.length_nil]; omega) ?_
    simp only [e1, e2, e3]
    exact ih (i + 1) (by omega)
theorem comb_total (m : Nat) (hm : m ≤ 100000) : ∃ k, thicketlaw08_comb.f k ((m + 1 : Nat) : Int) = some (0, combL m) := (comb_ev m hm m 0 (by omega)).rounds
theorem combN_get : ∀ m j : Nat, j < 2 * m → (combN m)[j]? = some (if j % 2 = 0 then numN (j / 2) else leafN) := by
  intro m
  induction m with
  | zero => intro j h; omega
  | succ m ih =>
    intro j h
    unfold combN
    by_cases h1 : j < 2 * m
    · rw [List.getElem?_append_left (by rw [combN_length]; exact h1)]
      exact ih j h1
    · rw [List.getElem?_append_right (by rw [combN_length]; omega), combN_length]
      by_cases h2 : j = 2 * m
      · subst h2
        rw [Nat.sub_self, if_pos (by omega), show 2 * m / 2 = m by omega]
        rfl
      · obtain rfl : j = 2 * m + 1 := by omega
        rw [show 2 * m + 1 - 2 * m = 1 by omega, if_neg (by omega)]
        rfl
theorem comb_rd (m j : Nat) (h : j ≤ 2 * m) : rd_T40 (combL m) (j : Int) = if j % 2 = 0 ∧ j < 2 * m then numN (j / 2) else leafN := by
  unfold rd_T40 combL
  rw [Int.toNat_natCast, List.getD_eq_getElem?_getD]
  by_cases h1 : j < 2 * m
  · rw [List.getElem?_append_left (by rw [combN_length]; exact h1), combN_get m j h1]
    by_cases h2 : j % 2 = 0
    · rw [if_pos h2, if_pos ⟨h2, h1⟩]; rfl
    · rw [if_neg h2, if_neg (fun h => h2 h.1)]; rfl
  · obtain rfl : j = 2 * m := by omega
    rw [List.getElem?_append_right (by rw [combN_length]; exact Nat.le_refl _), combN_length, Nat.sub_self, if_neg (by omega)]
    rfl
theorem leaf_right (n : Int) : rightB leafN n = true := by unfold rightB leafN; rfl
theorem num_right (i : Nat) (n : Int) (h : 2 * (i : Int) + 2 < n) : rightB (numN i) n = true := by
  have hf : feq 4607182418800017408 4607182418800017408 = true := by decide +kernel
  have hr : restB (numN i) n = true := by
    unfold restB numN
    simp only
    exact decide_eq_true ⟨trivial, by decide, by decide, .inl trivial, by omega, by omega, by omega, by omega⟩
  show (if (2 : Int) = 1 then _ else if (2 : Int) = 2 then feq 4607182418800017408 4607182418800017408 && (decide (([] : List Int).length = 0) && restB (numN i) n) else _) = true
  rw [if_neg (by decide), if_pos rfl, hf, hr]
  rfl
theorem kid_leaf (x : Int) : kidC leafN x = 0 := rfl
theorem kid_num (i : Nat) (x : Int) : kidC (numN i) x = (if 2 * (i : Int) + 1 = x then 1 else 0) + (if 2 * (i : Int) + 2 = x then 1 else 0) := by
  unfold kidC numN
  simp only
  rw [if_neg (by decide)]
theorem comb_kids (m : Nat) : ∀ d i : Nat, i + d = 2 * m + 1 → ∀ x : Nat, x ≤ 2 * m → kidsC (combL m) d i (x : Int) = if x = 0 ∨ (x - 1) / 2 * 2 < i then 0 else 1 := by
  intro d
  induction d with
  | zero =>
    intro i hi x hx
    unfold kidsC
    rw [if_pos (by omega)]
  | succ d ih =>
    intro i hi x hx
    unfold kidsC
    rw [ih (i + 1) (by omega) x hx, comb_rd m i (by omega)]
    by_cases h1 : i % 2 = 0 ∧ i < 2 * m
    · rw [if_pos h1, kid_num]
      by_cases h2 : x = i + 1
      · rw [if_pos (by omega), if_neg (by omega), if_pos (by omega), if_neg (by omega)]
        rfl
      · by_cases h3 : x = i + 2
        · rw [if_neg (by omega), if_pos (by omega), if_pos (by omega), if_neg (by omega)]
          rfl
        · rw [if_neg (by omega), if_neg (by omega)]
          by_cases h4 : x = 0 ∨ (x - 1) / 2 * 2 < i
          · rw [if_pos h4, if_pos (by omega)]
            rfl
          · rw [if_neg h4, if_neg (by omega)]
            rfl
    · rw [if_neg h1, kid_leaf]
      by_cases h4 : x = 0 ∨ (x - 1) / 2 * 2 < i
      · rw [if_pos h4, if_pos (by omega)]
        rfl
      · rw [if_neg h4, if_neg (by omega)]
        rfl
theorem comb_fine (m : Nat) : TreeFine (combL m) where
  some := by rw [combL_length]; omega
  fit := by
    intro j hj
    rw [combL_length] at hj ⊢
    rw [comb_rd m j (by omega)]
    by_cases h : j % 2 = 0 ∧ j < 2 * m
    · rw [if_pos h]
      exact num_right _ _ (by omega)
    · rw [if_neg h]
      exact leaf_right _
  once := by
    intro j hj
    rw [combL_length] at hj ⊢
    rw [comb_kids m (2 * m + 1) 0 (by omega) j (by omega)]
    by_cases h : j = 0
    · rw [if_pos (.inl h), if_pos h]
    · rw [if_neg (by omega), if_neg h]
theorem comb_reach (m : Nat) : Reach (combL m) := by
  intro p h0 hs j hj
  rw [combL_length] at hj
  have even : ∀ i, i ≤ m → p (2 * i) := by
    intro i
    induction i with
    | zero => intro _; exact h0
    | succ i ih =>
      intro hi
      have h1 := hs (2 * i) (by rw [combL_length]; omega) (ih (by omega))
      rw [comb_rd m (2 * i) (by omega), if_pos ⟨by omega, by omega⟩, show 2 * i / 2 = i by omega] at h1
      have h2 := (h1 (by show (2 : Int) ≠ 1; decide)).2
      rw [show (numN i).f7.toNat = 2 * (i + 1) by show (2 * (i : Int) + 2).toNat = _; omega] at h2
      exact h2
  by_cases h : j % 2 = 0
  · have := even (j / 2) (by omega)
    rw [show 2 * (j / 2) = j by omega] at this
    exact this
  · have h1 := hs (2 * (j / 2)) (by rw [combL_length]; omega) (even (j / 2) (by omega))
    rw [comb_rd m (2 * (j / 2)) (by omega), if_pos ⟨by omega, by omega⟩, show 2 * (j / 2) / 2 = j / 2 by omega] at h1
    have h2 := (h1 (by show (2 : Int) ≠ 1; decide)).1
    rw [show (numN (j / 2)).f6.toNat = j by show (2 * ((j / 2 : Nat) : Int) + 1).toNat = _; omega] at h2
    exact h2
theorem comb_shape (t0 : Int) (m : Nat) (hm : m ≤ 100000) : ∃ k, trees_Shape.f k t0 (combL m) = some (0, 0) := by
  refine shape_ok t0 (combL m) (by rw [combL_length]; omega) ?_ (comb_fine m) (comb_reach m)
  intro y hy
  obtain ⟨j, hj, rfl⟩ := List.getElem_of_mem hy
  have h := comb_rd m j (by rw [combL_length] at hj; omega)
  unfold rd_T40 at h
  rw [Int.toNat_natCast, List.getD_eq_getElem?_getD, List.getElem?_eq_getElem hj] at h
  replace h : (combL m)[j] = _ := h
  rw [h]
  split
  · exact Nat.zero_le _
  · exact Nat.zero_le _
end Go.Proofs.YtglpjgbgomppjaaDoor.FAll
