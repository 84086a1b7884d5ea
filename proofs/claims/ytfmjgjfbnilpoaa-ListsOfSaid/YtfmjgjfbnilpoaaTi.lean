/-
 Plain: a fine tree is a binary tree.
-/
import Derived.Test.YtfmjgjfbnilpoaaAl
import Derived.Test.YtfmjgjfbnilpoaaPh
namespace Go.Proofs.Ytfmjgjfbnilpoaa.FAll
open Go.RowKit YtfmjgjfbnilpoaaW.PrintWords YtfmjgjfbnilpoaaW.PrintLast YtfmjgjfbnilpoaaW.PrintMore BTree
set_option linter.unusedVariables false
set_option linter.unusedSimpArgs false
theorem kidsC_ge (ns : List S71) (x : Int) : ∀ (d i a : Nat), i ≤ a → a < i + d → kidC (rd_T71 ns (a : Int)) x ≤ kidsC ns d i x := by
 intro d
 induction d with
 | zero => intro i a h1 h2; omega
 | succ d ih =>
  intro i a h1 h2
  unfold kidsC
  by_cases e : a = i
  ·subst e
   have := kidsC_nonneg ns x d (a + 1)
   omega
  ·have := ih (i + 1) a (by omega) (by omega)
   have := (kidC_nonneg (rd_T71 ns (i : Int)) x).1
   omega
theorem kidsC_two (ns : List S71) (x : Int) : ∀ (d i a b : Nat), i ≤ a → a < b → b < i + d → kidC (rd_T71 ns (a : Int)) x + kidC (rd_T71 ns (b : Int)) x ≤ kidsC ns d i x := by
 intro d
 induction d with
 | zero => intro i a b h1 h2 h3; omega
 | succ d ih =>
  intro i a b h1 h2 h3
  unfold kidsC
  by_cases e : a = i
  ·subst e
   have := kidsC_ge ns x d (a + 1) b (by omega) (by omega)
   omega
  ·have := ih (i + 1) a b (by omega) h2 (by omega)
   have := (kidC_nonneg (rd_T71 ns (i : Int)) x).1
   omega
theorem kids_of {ns : List S71} (ok : TreeFine ns) {i : Nat} (hi : i < ns.length) (h : innN ns i = true) : 1 ≤ (rd_T71 ns (i : Int)).f6 ∧ (rd_T71 ns (i : Int)).f6 < (ns.length : Int) ∧ 1 ≤ (rd_T71 ns (i : Int)).f7 ∧ (rd_T71 ns (i : Int)).f7 < (ns.length : Int) ∧ (rd_T71 ns (i : Int)).f0 ≠ 1 := by
 have hk := inner_kind (y := rd_T71 ns (i : Int)) h
 rcases right_kids (ok.fit i hi) with hl | ⟨_, k6, k6', k7, k7'⟩
 ·omega
 ·exact ⟨k6, k6', k7, k7', by omega⟩
theorem fine_of {ns : List S71} (ok : TreeFine ns) : Fine ns.length (innN ns) (klN ns) (krN ns) where
 pos := ok.some
 kids := by
  intro i hi h
  obtain ⟨a, b, c, d, e⟩ := kids_of ok hi h
  refine ⟨by unfold klN; omega, by unfold klN; omega, by unfold krN; omega, by unfold krN; omega, fun he => ?_⟩
  unfold klN krN at he
  have h1 := kidsC_ge ns (rd_T71 ns (i : Int)).f6 ns.length 0 i (Nat.zero_le _) (by omega)
  have h2 := ok.once (rd_T71 ns (i : Int)).f6.toNat (by omega)
  rw [show (((rd_T71 ns (i : Int)).f6.toNat : Nat) : Int) = (rd_T71 ns (i : Int)).f6 by omega, if_neg (by omega)] at h2
  unfold kidC at h1
  rw [if_neg e, if_pos rfl, if_pos (by omega : (rd_T71 ns (i : Int)).f7 = (rd_T71 ns (i : Int)).f6)] at h1
  omega
 uniq := by
  intro i k j hi hk h1 h2 h3 h4
  obtain ⟨a1, b1, c1, d1, e1⟩ := kids_of ok hi h1
  obtain ⟨a2, b2, c2, d2, e2⟩ := kids_of ok hk h2
  unfold klN krN at h3 h4
  have m1 : 1 ≤ kidC (rd_T71 ns (i : Int)) (j : Int) := by
   unfold kidC
   rw [if_neg e1]
   rcases h3 with h3 | h3
   ·rw [if_pos (show (rd_T71 ns (i : Int)).f6 = (j : Int) by omega)]; split <;> omega
   ·rw [if_pos (show (rd_T71 ns (i : Int)).f7 = (j : Int) by omega)]; split <;> omega
  have m2 : 1 ≤ kidC (rd_T71 ns (k : Int)) (j : Int) := by
   unfold kidC
   rw [if_neg e2]
   rcases h4 with h4 | h4
   ·rw [if_pos (show (rd_T71 ns (k : Int)).f6 = (j : Int) by omega)]; split <;> omega
   ·rw [if_pos (show (rd_T71 ns (k : Int)).f7 = (j : Int) by omega)]; split <;> omega
  have hj := ok.once j (by rcases h3 with h3 | h3 <;> omega)
  rw [if_neg (by rcases h3 with h3 | h3 <;> omega)] at hj
  rcases Nat.lt_trichotomy i k with hl | hl | hl
  ·have := kidsC_two ns (j : Int) ns.length 0 i k (Nat.zero_le _) hl (by omega)
   omega
  ·exact hl
  ·have := kidsC_two ns (j : Int) ns.length 0 k i (Nat.zero_le _) hl (by omega)
   omega
theorem tree_is {ns : List S71} (ok : TreeFine ns) : ∃ T, TreeIs ns T := by
 obtain ⟨T, h1, h2⟩ := exists_tree (fine_of ok)
 exact ⟨T, h1, h2, fun i hi h => by obtain ⟨a, _, c, _, _⟩ := kids_of ok hi h; exact ⟨by omega, by omega⟩, h1.size_le (fine_of ok) h2⟩
end Go.Proofs.Ytfmjgjfbnilpoaa.FAll
