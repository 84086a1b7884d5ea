/-
  Keys; the stable order and the distinct keys, plain.
-/
import Derived.Test.YtdhiljimmijghaaOn
import Derived.Test.YtdhiljimmijghaaOi
namespace Go.Proofs.Ytdhiljimmijghaa
set_option linter.unusedVariables false
set_option linter.unusedSimpArgs false
open Go.Sort Go.RowKit Go.Proofs.Ytdhiljimmijghaa.FAll Go.Proofs.YtdhiljimmijghaaW.PrintWords Go.Proofs.YtdhiljimmijghaaW.PrintLast Go.Proofs.YtdhiljimmijghaaW.PrintMore
theorem keyT_eq {x : Nat} (hx : x < 2 ^ 64) : keyT x = fkey x := by
  unfold keyT
  rw [key_f hx]
  rfl
theorem ltK_eq {x y : Nat} (hx : x < 2 ^ 64) (hy : y < 2 ^ 64) : ltK x y = decide (fkey x < fkey y) := by unfold ltK; rw [keyT_eq hx, keyT_eq hy]
theorem mem_wf {m d : List Nat} (h : StEq ltK m d) (hb : ∀ x ∈ m, x < 2 ^ 64) : ∀ x ∈ d, x < 2 ^ 64 := fun x hx => hb x ((h.mem swoK x).1 hx)
/-! Distinct -/
theorem rises_take {s : List Nat} (hr : Rises ltK s) (j : Nat) (hj : j < s.length) : ∀ b ∈ s.take j, ltK s[j] b = false := by
  intro b hb
  obtain ⟨i, hi, rfl⟩ := List.mem_iff_getElem.1 hb
  rw [List.length_take] at hi
  rw [List.getElem_take]
  exact (List.pairwise_iff_getElem.1 hr) i j (by omega) hj (by omega)
theorem dist_nan {t : List Nat} {b : Nat} {ks : List Int} (h : DistinctOf t ks) (hb : isNaN b = true) : DistinctOf (t ++ [b]) ks :=
  ⟨h.rises, fun x => by rw [h.mem]; simp [hb], by rw [List.length_append]; have := h.len; omega⟩
theorem dist_same {t : List Nat} {b : Nat} {ks : List Int} (h : DistinctOf t ks) (hk : fkey b ∈ ks) : DistinctOf (t ++ [b]) ks :=
  ⟨h.rises, fun x => by
    rw [h.mem]
    constructor
    · rintro ⟨c, h1, h2, h3⟩
      exact ⟨c, List.mem_append_left _ h1, h2, h3⟩
    · rintro ⟨c, h1, h2, h3⟩
      rcases List.mem_append.1 h1 with h1 | h1
      · exact ⟨c, h1, h2, h3⟩
      · rw [List.mem_singleton] at h1
        subst h1
        rw [h3] at hk
        exact (h.mem x).1 hk, by rw [List.length_append]; have := h.len; omega⟩
theorem dist_new {t : List Nat} {b : Nat} {ks : List Int} (h : DistinctOf t ks) (hb : isNaN b = false) (hk : ∀ x ∈ ks, x < fkey b) : DistinctOf (t ++ [b]) (ks ++ [fkey b]) :=
  ⟨List.pairwise_append.2 ⟨h.rises, List.pairwise_singleton .., fun x hx y hy => by rw [List.mem_singleton.1 hy]; exact hk x hx⟩, fun x => by
    rw [List.mem_append, h.mem]
    constructor
    · rintro (⟨c, h1, h2, h3⟩ | h1)
      · exact ⟨c, List.mem_append_left _ h1, h2, h3⟩
      · exact ⟨b, List.mem_append_right _ (List.mem_singleton.2 rfl), hb, (List.mem_singleton.1 h1).symm⟩
    · rintro ⟨c, h1, h2, h3⟩
      rcases List.mem_append.1 h1 with h1 | h1
      · exact .inl ⟨c, h1, h2, h3⟩
      · rw [List.mem_singleton] at h1
        subst h1
        exact .inr (List.mem_singleton.2 h3.symm), by rw [List.length_append, List.length_append]; have := h.len; simp only [List.length_singleton]; omega⟩
theorem rises_last {ks : List Int} (h : ks.Pairwise (· < ·)) (p : Nat) (hp : p + 1 = ks.length) : ∀ x ∈ ks, x ≤ ks[p] := by
  intro x hx
  obtain ⟨i, hi, rfl⟩ := List.mem_iff_getElem.1 hx
  by_cases e : i = p
  · subst e; omega
  · have := (List.pairwise_iff_getElem.1 h) i p hi (by omega) (by omega)
    omega
theorem distinctL_wf (m : List Nat) (hb : ∀ x ∈ m, x < 2 ^ 64) : ∀ x ∈ distinctL m, x < 2 ^ 64 := by
  intro x hx
  obtain ⟨y, hy, rfl⟩ := List.mem_map.1 hx
  obtain ⟨b, h1, h2, h3⟩ := ((keysL_of m).mem y).1 hy
  have h7 := fkey_bounds (b := b) (hb b h1)
  rw [← h3]
  exact atBits_lt _ h7.1 h7.2
theorem distinctL_len (m : List Nat) : (distinctL m).length ≤ m.length := by
  unfold distinctL
  rw [List.length_map]
  exact (keysL_of m).len
theorem sortL_len (m : List Nat) : (sortL ltK m).length = m.length := by
  unfold sortL
  have := (insertion_stab swoK m.toArray 0 m.length (by simp)).size
  rw [Array.length_toList, this, List.size_toArray]
end Go.Proofs.Ytdhiljimmijghaa
