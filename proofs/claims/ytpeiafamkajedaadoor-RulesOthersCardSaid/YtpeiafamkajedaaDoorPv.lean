/-
  Plain: in a fine tree the way comes to a leaf; a right ensemble's trees are good over each vector of its length.
-/
import Derived.Test.YtpeiafamkajedaaDoorGs
import Derived.Test.YtpeiafamkajedaaDoorPz
namespace Go.Proofs.YtpeiafamkajedaaDoor.FAll
open Go.RowKit Go.Proofs.YtpeiafamkajedaaDoorW.PrintWords Go.Proofs.YtpeiafamkajedaaDoorW.PrintLast Go.Proofs.YtpeiafamkajedaaDoorW.PrintMore
set_option linter.unusedVariables false
set_option linter.unusedSimpArgs false
set_option linter.unusedSectionVars false
theorem pigeon : ∀ (n : Nat) (f : Nat → Nat), (∀ i, i ≤ n → f i < n) → (∀ i j, i < j → j ≤ n → f i ≠ f j) → False := by
  intro n
  induction n with
  | zero => intro f h _; exact absurd (h 0 (Nat.le_refl _)) (Nat.not_lt_zero _)
  | succ n ih =>
    intro f h hi
    refine ih (fun i => if f i = n then f (n + 1) else f i) (fun i hin => ?_) (fun i j hij hj => ?_)
    · show (if f i = n then f (n + 1) else f i) < n
      split
      · rename_i h1
        have := h (n + 1) (Nat.le_refl _)
        have := hi i (n + 1) (by omega) (Nat.le_refl _)
        omega
      · have := h i (by omega)
        omega
    · show (if f i = n then f (n + 1) else f i) ≠ (if f j = n then f (n + 1) else f j)
      have h1 := hi i j hij (by omega)
      have h2 := hi i (n + 1) (by omega) (Nat.le_refl _)
      have h3 := hi j (n + 1) (by omega) (Nat.le_refl _)
      split <;> split <;> omega
theorem kidsC_ge (ns : List S65) (x : Int) : ∀ (d i a : Nat), i ≤ a → a < i + d → kidC (rd_T65 ns (a : Int)) x ≤ kidsC ns d i x := by
  intro d
  induction d with
  | zero => intro i a h1 h2; omega
  | succ d ih =>
    intro i a h1 h2
    unfold kidsC
    by_cases e : a = i
    · subst e
      have := kidsC_nonneg ns x d (a + 1)
      omega
    · have := ih (i + 1) a (by omega) (by omega)
      have := (kidC_nonneg (rd_T65 ns (i : Int)) x).1
      omega
theorem kidsC_two (ns : List S65) (x : Int) : ∀ (d i a b : Nat), i ≤ a → a < b → b < i + d → kidC (rd_T65 ns (a : Int)) x + kidC (rd_T65 ns (b : Int)) x ≤ kidsC ns d i x := by
  intro d
  induction d with
  | zero => intro i a b h1 h2 h3; omega
  | succ d ih =>
    intro i a b h1 h2 h3
    unfold kidsC
    by_cases e : a = i
    · subst e
      have := kidsC_ge ns x d (a + 1) b (by omega) (by omega)
      omega
    · have := ih (i + 1) a b (by omega) h2 (by omega)
      have := (kidC_nonneg (rd_T65 ns (i : Int)) x).1
      omega
theorem inner_kind {y : S65} (h : innerB y = true) : y.f0 = 2 ∨ y.f0 = 3 := by
  unfold innerB at h
  simpa using h
section
variable {ns : List S65} (ok : TreeFine ns) (xs : List Nat)
include ok
theorem next_kid {i : Int} (h0 : 0 ≤ i) (h1 : i < (ns.length : Int)) (hi : innerB (rd_T65 ns i) = true) : 1 ≤ nextI ns xs i ∧ nextI ns xs i < (ns.length : Int) ∧ 1 ≤ kidC (rd_T65 ns i) (nextI ns xs i) := by
  have hf := ok.fit i.toNat (by omega)
  rw [show ((i.toNat : Nat) : Int) = i by omega] at hf
  have hk := inner_kind hi
  rcases right_kids hf with hl | ⟨_, k6, k6', k7, k7'⟩
  · omega
  · unfold nextI kidC
    rw [if_neg (by omega : ¬ (rd_T65 ns i).f0 = 1)]
    split
    · refine ⟨k6, k6', ?_⟩
      rw [if_pos rfl]
      split <;> omega
    · refine ⟨k7, k7', ?_⟩
      rw [if_pos (rfl : (rd_T65 ns i).f7 = (rd_T65 ns i).f7)]
      split <;> omega
theorem way_lies : ∀ j, (∀ i, i < j → innerB (rd_T65 ns (wayI ns xs i)) = true) → 0 ≤ wayI ns xs j ∧ wayI ns xs j < (ns.length : Int) ∧ (1 ≤ j → 1 ≤ wayI ns xs j) := by
  intro j
  induction j with
  | zero =>
    intro _
    refine ⟨Int.le_refl _, ?_, fun h => by omega⟩
    show (0 : Int) < _
    have := ok.some
    omega
  | succ j ih =>
    intro h
    obtain ⟨a, b, _⟩ := ih (fun i hi => h i (by omega))
    obtain ⟨c, d, _⟩ := next_kid ok xs a b (h j (Nat.lt_succ_self _))
    exact ⟨by show 0 ≤ nextI ns xs (wayI ns xs j); omega, d, fun _ => c⟩
theorem way_apart : ∀ (i j : Nat), i < j → (∀ k, k < j → innerB (rd_T65 ns (wayI ns xs k)) = true) → wayI ns xs i ≠ wayI ns xs j := by
  intro i
  induction i with
  | zero =>
    intro j hj h e
    have h1 := (way_lies ok xs j h).2.2 hj
    rw [← e] at h1
    exact absurd h1 (by show ¬ (1 : Int) ≤ 0; decide)
  | succ i ih =>
    intro j hj h e
    obtain ⟨j, rfl⟩ : ∃ j', j = j' + 1 := ⟨j - 1, by omega⟩
    obtain ⟨a0, a1, _⟩ := way_lies ok xs i (fun k hk => h k (by omega))
    obtain ⟨b0, b1, _⟩ := way_lies ok xs j (fun k hk => h k (by omega))
    obtain ⟨_, ax, ak⟩ := next_kid ok xs a0 a1 (h i (by omega))
    obtain ⟨bx1, bx, bk⟩ := next_kid ok xs b0 b1 (h j (by omega))
    replace e : nextI ns xs (wayI ns xs i) = nextI ns xs (wayI ns xs j) := e
    rw [e] at ak
    obtain ⟨x, hx⟩ : ∃ x, x = nextI ns xs (wayI ns xs j) := ⟨_, rfl⟩
    rw [← hx] at ak bk bx bx1
    have hne := ih j (by omega) (fun k hk => h k (by omega))
    have honce := ok.once x.toNat (by omega)
    rw [show ((x.toNat : Nat) : Int) = x by omega, if_neg (by omega)] at honce
    obtain ⟨p, hp⟩ : ∃ p : Nat, wayI ns xs i = (p : Int) := ⟨_, (Int.toNat_of_nonneg a0).symm⟩
    obtain ⟨q, hq⟩ : ∃ q : Nat, wayI ns xs j = (q : Int) := ⟨_, (Int.toNat_of_nonneg b0).symm⟩
    rw [hp] at ak a1 hne
    rw [hq] at bk b1 hne
    rcases Nat.lt_or_gt_of_ne (show p ≠ q by omega) with hl | hl
    · have := kidsC_two ns x ns.length 0 p q (by omega) hl (by omega)
      omega
    · have := kidsC_two ns x ns.length 0 q p (by omega) hl (by omega)
      omega
theorem way_first : ∀ k, (∀ i, i < k → innerB (rd_T65 ns (wayI ns xs i)) = true) ∨ ∃ m, m < k ∧ (∀ i, i < m → innerB (rd_T65 ns (wayI ns xs i)) = true) ∧ innerB (rd_T65 ns (wayI ns xs m)) = false := by
  intro k
  induction k with
  | zero => exact .inl fun i hi => absurd hi (Nat.not_lt_zero _)
  | succ k ih =>
    rcases ih with h | ⟨m, h1, h2, h3⟩
    · cases hb : innerB (rd_T65 ns (wayI ns xs k)) with
      | true =>
        refine .inl fun i hi => ?_
        by_cases e : i = k
        · subst e; exact hb
        · exact h i (by omega)
      | false => exact .inr ⟨k, Nat.lt_succ_self _, h, hb⟩
    · exact .inr ⟨m, by omega, h2, h3⟩
theorem way_ends : ∃ m, m ≤ ns.length ∧ WayOk ns xs m := by
  rcases way_first ok xs (ns.length + 1) with h | ⟨m, h1, h2, h3⟩
  · exfalso
    refine pigeon ns.length (fun i => (wayI ns xs i).toNat) (fun i hi => ?_) (fun i j hij hj => ?_)
    · obtain ⟨a, b, _⟩ := way_lies ok xs i (fun k hk => h k (by omega))
      show (wayI ns xs i).toNat < ns.length
      omega
    · obtain ⟨a, _, _⟩ := way_lies ok xs i (fun k hk => h k (by omega))
      obtain ⟨b, _, _⟩ := way_lies ok xs j (fun k hk => h k (by omega))
      have := way_apart ok xs i j hij (fun k hk => h k (by omega))
      show (wayI ns xs i).toNat ≠ (wayI ns xs j).toNat
      omega
  · refine ⟨m, by omega, ⟨fun j hj => ?_, h2, h3⟩⟩
    obtain ⟨a, b, _⟩ := way_lies ok xs j (fun k hk => h2 k (by omega))
    exact ⟨a, b⟩
end
/-- How long the way is. -/
noncomputable def wayM (ns : List S65) (xs : List Nat) : Nat := open Classical in if h : ∃ m, m ≤ ns.length ∧ WayOk ns xs m then h.choose else 0
theorem wayM_ok {ns : List S65} (ok : TreeFine ns) (xs : List Nat) : wayM ns xs ≤ ns.length ∧ WayOk ns xs (wayM ns xs) := by
  have h := way_ends ok xs
  unfold wayM
  rw [dif_pos h]
  exact h.choose_spec
/-- A right ensemble's trees. -/
theorem trees_good {nm : ByteArray} {fs : List ByteArray} {outs : Int} {bs : List Int} {ts : List S37} (hts : ∀ y ∈ ts, y.f1.length ≤ 1759218604441 ∧ ∀ x ∈ y.f1, x.f4.length ≤ 9223372036854775807) (h : CheckGood shapeV nm fs outs bs ts) (xs : List Nat) (hx : xs.length = fs.length) :
    ∀ n : Nat, n < ts.length → shapeV (rd_T37 ts (n : Int)) = (0, 0) ∧ TreeGood (rd_T37 ts (n : Int)) outs xs (wayM (rd_T37 ts (n : Int)).f1 xs) := by
  intro n hn
  obtain ⟨y, hy⟩ : ∃ y, y = rd_T37 ts (n : Int) := ⟨_, rfl⟩
  have hg := treesV_all shapeV fs.length outs ts _ _ h.trees n (by omega) (by omega)
  rw [← hy] at hg ⊢
  have hmem : y ∈ ts := by
    rw [hy]
    unfold rd_T37
    rw [Int.toNat_natCast, List.getD_eq_getElem?_getD, List.getElem?_eq_getElem hn]
    exact List.getElem_mem hn
  obtain ⟨g1, g2, g3, g4⟩ := treeV_good hg
  obtain ⟨⟨k, hk⟩, hs⟩ := shapeV_spec y (hts y hmem).1 (hts y hmem).2
  obtain ⟨hz, fine⟩ := hs g4
  obtain ⟨m1, m2⟩ := wayM_ok fine xs
  refine ⟨hz, ⟨⟨k, by rw [hk, hz]⟩, g1, fun j hj hi => ?_, m2, by omega⟩⟩
  have := nodeX_feat (g3 j hj) (by have := inner_kind hi; omega)
  omega
end Go.Proofs.YtpeiafamkajedaaDoor.FAll
