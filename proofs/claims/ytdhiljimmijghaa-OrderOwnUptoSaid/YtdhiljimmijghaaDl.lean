/-
  The distinct keys of a list, as a function; the stable order of a list, as a function.
-/
import Derived.Test.YtdhiljimmijghaaDi
import Derived.Test.YtdhiljimmijghaaSw
namespace Go.Proofs.Ytdhiljimmijghaa.FAll
open Go.RowKit Go.Sort
set_option linter.unusedVariables false
/-- k put into a rising list, once. -/
def insK (k : Int) : List Int → List Int
  | [] => [k]
  | x :: r => if k < x then k :: x :: r else if k = x then x :: r else x :: insK k r
theorem insK_mem (k x : Int) : ∀ l, x ∈ insK k l ↔ x = k ∨ x ∈ l
  | [] => by simp [insK]
  | y :: r => by
    unfold insK
    split
    · simp
    · split
      · rename_i h1 h2
        subst h2
        simp
      · rw [List.mem_cons, insK_mem k x r, List.mem_cons]
        exact ⟨fun h => by rcases h with h | h | h <;> simp [h], fun h => by rcases h with h | h | h <;> simp [h]⟩
theorem insK_rises (k : Int) : ∀ l : List Int, l.Pairwise (· < ·) → (insK k l).Pairwise (· < ·)
  | [], _ => by simp [insK]
  | y :: r, h => by
    obtain ⟨h1, h2⟩ := List.pairwise_cons.1 h
    unfold insK
    split
    · rename_i h3
      refine List.pairwise_cons.2 ⟨fun z hz => ?_, h⟩
      rcases List.mem_cons.1 hz with hz | hz
      · omega
      · have := h1 z hz; omega
    · split
      · exact h
      · refine List.pairwise_cons.2 ⟨fun z hz => ?_, insK_rises k r h2⟩
        rcases (insK_mem k z r).1 hz with hz | hz
        · omega
        · exact h1 z hz
theorem insK_len (k : Int) : ∀ l, (insK k l).length ≤ l.length + 1
  | [] => by simp [insK]
  | y :: r => by
    unfold insK
    split
    · simp
    · split
      · simp
      · have := insK_len k r
        simp only [List.length_cons]
        omega
def keysL : List Nat → List Int
  | [] => []
  | b :: l => if isNaN b then keysL l else insK (fkey b) (keysL l)
theorem keysL_of : ∀ l, DistinctOf l (keysL l)
  | [] => ⟨List.Pairwise.nil, fun x => by simp [keysL], Nat.le_refl _⟩
  | b :: l => by
    have ih := keysL_of l
    unfold keysL
    by_cases hb : isNaN b = true
    · rw [if_pos hb]
      refine ⟨ih.rises, fun x => by rw [ih.mem]; simp [hb], by have := ih.len; rw [List.length_cons]; omega⟩
    · have hb' : isNaN b = false := by simpa using hb
      rw [if_neg hb]
      refine ⟨insK_rises _ _ ih.rises, fun x => ?_, by have := ih.len; have := insK_len (fkey b) (keysL l); rw [List.length_cons]; omega⟩
      rw [insK_mem, ih.mem]
      constructor
      · rintro (h | ⟨c, h1, h2, h3⟩)
        · exact ⟨b, List.mem_cons_self .., hb', h.symm⟩
        · exact ⟨c, List.mem_cons_of_mem _ h1, h2, h3⟩
      · rintro ⟨c, h1, h2, h3⟩
        rcases List.mem_cons.1 h1 with h1 | h1
        · subst h1; exact .inl h3.symm
        · exact .inr ⟨c, h1, h2, h3⟩
theorem rises_unique : ∀ {a b : List Int}, a.Pairwise (· < ·) → b.Pairwise (· < ·) → (∀ x, x ∈ a ↔ x ∈ b) → a = b
  | [], [], _, _, _ => rfl
  | [], y :: b, _, _, h => absurd ((h y).2 (List.mem_cons_self ..)) (by simp)
  | x :: a, [], _, _, h => absurd ((h x).1 (List.mem_cons_self ..)) (by simp)
  | x :: a, y :: b, ha, hb, h => by
    obtain ⟨a1, a2⟩ := List.pairwise_cons.1 ha
    obtain ⟨b1, b2⟩ := List.pairwise_cons.1 hb
    have e : x = y := by
      rcases List.mem_cons.1 ((h x).1 (List.mem_cons_self ..)) with h1 | h1
      · exact h1
      · rcases List.mem_cons.1 ((h y).2 (List.mem_cons_self ..)) with h2 | h2
        · exact h2.symm
        · have := b1 x h1; have := a1 y h2; omega
    subst e
    rw [rises_unique a2 b2 fun z => ?_]
    constructor
    · intro hz
      rcases List.mem_cons.1 ((h z).1 (List.mem_cons_of_mem _ hz)) with h1 | h1
      · have := a1 z hz; omega
      · exact h1
    · intro hz
      rcases List.mem_cons.1 ((h z).2 (List.mem_cons_of_mem _ hz)) with h1 | h1
      · have := b1 z hz; omega
      · exact h1
theorem distinct_unique {l : List Nat} {a b : List Int} (ha : DistinctOf l a) (hb : DistinctOf l b) : a = b := rises_unique ha.rises hb.rises fun x => by rw [ha.mem, hb.mem]
def distinctL (l : List Nat) : List Nat := (keysL l).map atBits
/-- The list in its stable order. -/
def sortL (lt : Nat → Nat → Bool) (l : List Nat) : List Nat := (insertionSort lt l.toArray 0 l.length).toList
theorem sortL_st {lt : Nat → Nat → Bool} (hS : SWO lt) (l : List Nat) : StEq lt l (sortL lt l) := by
  have := (insertion_stab hS l.toArray 0 l.length (by simp)).st
  unfold sortL
  simpa using this
theorem sortL_rises {lt : Nat → Nat → Bool} (hS : SWO lt) (l : List Nat) : Rises lt (sortL lt l) := by
  have h1 := (insertion_stab hS l.toArray 0 l.length (by simp)).size
  have h2 := insertion_sorted hS l.toArray 0 l.length (Nat.zero_le _) (by simp)
  unfold sortL
  refine sorted_list ?_
  rw [h1]
  simpa using h2
theorem sortL_unique {lt : Nat → Nat → Bool} (hS : SWO lt) {l ys : List Nat} (h1 : StEq lt l ys) (h2 : Rises lt ys) : ys = sortL lt l := by
  refine StEq.unique hS _ _ (fun x => ?_) (sortL_rises hS l) h2
  rw [h1 x, sortL_st hS l x]
end Go.Proofs.Ytdhiljimmijghaa.FAll
