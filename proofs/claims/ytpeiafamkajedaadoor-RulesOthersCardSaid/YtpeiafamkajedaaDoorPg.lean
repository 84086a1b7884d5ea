/-
  Plain: where trees.Shape says OK, every node is reached from the root.
-/
import Derived.Test.YtpeiafamkajedaaDoorPv
import Derived.Test.YtpeiafamkajedaaDoorTi
namespace Go.Proofs.YtpeiafamkajedaaDoor.FAll
open Go.RowKit Go.Proofs.YtpeiafamkajedaaDoorW.PrintWords Go.Proofs.YtpeiafamkajedaaDoorW.PrintLast Go.Proofs.YtpeiafamkajedaaDoorW.PrintMore BTree
set_option linter.unusedVariables false
set_option linter.unusedSimpArgs false
theorem rdOf_mark (l : List Bool) (a : Int) (x : Nat) (h0 : 0 ≤ a) (ha : a < (l.length : Int)) : rdOf false (l.set a.toNat true) (x : Int) = if (x : Int) = a then true else rdOf false l (x : Int) := by
  unfold rdOf
  rw [List.getD_eq_getElem?_getD, List.getD_eq_getElem?_getD, List.getElem?_set]
  by_cases e : (x : Int) = a
  · rw [if_pos e, if_pos (by omega), if_pos (by omega)]
    rfl
  · rw [if_neg e, if_neg (by omega)]
theorem reach_l2 (n : Nat) (hn : n ≤ 1759218604441) : ∀ (k : Nat) (above : List Int) (reached : List Bool) (i : Nat) (r : Int × Int), i ≤ n → trees_Shape.l2 k above reached (n : Int) (i : Int) = some r → r.1 = 0 → ∀ j : Nat, i ≤ j → j < n → rdOf false reached (j : Int) = true := by
  intro k
  induction k with
  | zero => intro above reached i r hi h; simp [trees_Shape.l2] at h
  | succ k ih =>
    intro above reached i r hi h hr j hj1 hj2
    simp only [trees_Shape.l2] at h
    split at h
    · rename_i c1
      split at h
      · split at h
        · split at h
          · split at h
            · split at h
              · rename_i c6
                by_cases e : j = i
                · subst e; exact c6
                · have e1 : wrap64 ((i : Int) + 1) = ((i + 1 : Nat) : Int) := by unfold wrap64; omega
                  rw [e1] at h
                  exact ih above reached (i + 1) r (by omega) h hr j (by omega) hj2
              · rw [← Option.some.inj h] at hr; cases hr
            · cases h
          · rw [← Option.some.inj h] at hr; cases hr
        · cases h
      · cases h
    · omega
section
variable (t0 : Int) (ns : List S65) (p : Nat → Prop) (p0 : p 0) (hp : ∀ j : Nat, j < ns.length → p j → innerB (rd_T65 ns (j : Int)) = true → p (rd_T65 ns (j : Int)).f6.toNat ∧ p (rd_T65 ns (j : Int)).f7.toNat)
include hp
theorem reach_l1 (hn : ns.length ≤ 1759218604441) : ∀ (k : Nat) (above : List Int) (reached : List Bool) (stack : List Int) (r : Int × Int), stack.length ≤ 17592186044416 → trees_Shape.l1 k above reached stack t0 ns = some r → r.1 = 0 → (∀ s ∈ stack, p s.toNat) → (∀ j : Nat, rdOf false reached (j : Int) = true → p j) → ∀ j : Nat, j < ns.length → p j := by
  intro k
  induction k with
  | zero => intro above reached stack r hl h; simp [trees_Shape.l1] at h
  | succ k ih =>
    intro above reached stack r hl h hr hs hre j hj
    simp only [trees_Shape.l1, Option.bind_some] at h
    by_cases c0 : (stack.length : Int) > 0
    · rw [if_pos c0] at h
      have e1 : wrap64 ((stack.length : Int) - 1) = ((stack.length - 1 : Nat) : Int) := by unfold wrap64; omega
      rw [e1, if_pos (by omega), if_pos (by omega), if_pos (by omega), Int.toNat_natCast] at h
      obtain ⟨s, hs0⟩ : ∃ s, s = rd stack ((stack.length - 1 : Nat) : Int) := ⟨_, rfl⟩
      rw [← hs0] at h
      have hmem : s ∈ stack := by
        rw [hs0]
        unfold rd
        rw [Int.toNat_natCast, List.getD_eq_getElem?_getD, List.getElem?_eq_getElem (by omega)]
        exact List.getElem_mem _
      have htake : ∀ x ∈ stack.take (stack.length - 1), p x.toNat := fun x hx => hs x (List.mem_of_mem_take hx)
      have hlt : (stack.take (stack.length - 1)).length ≤ 17592186044416 := by rw [List.length_take]; omega
      by_cases c1 : 0 ≤ s
      · rw [if_pos c1] at h
        by_cases c2 : s < (reached.length : Int)
        · rw [if_pos c2] at h
          by_cases c3 : rdOf false reached s = true
          · rw [if_pos c3] at h
            exact ih above reached _ r hlt h hr htake hre j hj
          · rw [if_neg c3] at h
            by_cases c4 : s < (ns.length : Int)
            · rw [if_pos c4, inner_f] at h
              have hre2 : ∀ i : Nat, rdOf false (reached.set s.toNat true) (i : Int) = true → p i := by
                intro i hi
                rw [rdOf_mark reached s i c1 c2] at hi
                by_cases e : (i : Int) = s
                · have := hs s hmem
                  rwa [show s.toNat = i by omega] at this
                · rw [if_neg e] at hi
                  exact hre i hi
              simp only [Option.bind_some] at h
              by_cases c5 : innerB (rd_T65 ns s) = true
              · rw [if_pos c5] at h
                split at h
                · rename_i c6
                  have hk := hp s.toNat (by omega) (hs s hmem) (by rw [show ((s.toNat : Nat) : Int) = s by omega]; exact c5)
                  rw [show ((s.toNat : Nat) : Int) = s by omega] at hk
                  refine ih above _ _ r (by have := c6; simp only [List.length_append] at this ⊢; omega) h hr (fun x hx => ?_) hre2 j hj
                  rcases List.mem_append.1 hx with hx | hx
                  · exact htake x hx
                  · rcases List.mem_cons.1 hx with rfl | hx
                    · exact hk.1
                    · obtain rfl : x = (rd_T65 ns s).f7 := by simpa using hx
                      exact hk.2
                · cases h
              · rw [if_neg c5] at h
                exact ih above _ _ r hlt h hr htake hre2 j hj
            · rw [if_neg c4] at h; cases h
        · rw [if_neg c2] at h; cases h
      · rw [if_neg c1] at h; cases h
    · rw [if_neg c0] at h
      exact hre j (reach_l2 ns.length hn k above reached 0 r (Nat.zero_le _) h hr j (Nat.zero_le _) hj)
include p0
theorem reach_l0 (hn : ns.length ≤ 1759218604441) : ∀ (k : Nat) (above : List Int) (i : Nat) (r : Int × Int), i ≤ ns.length → trees_Shape.l0 k above ns (ns.length : Int) (i : Int) t0 ns = some r → r.1 = 0 → ∀ j : Nat, j < ns.length → p j := by
  intro k
  induction k with
  | zero => intro above i r hi h; simp [trees_Shape.l0] at h
  | succ k ih =>
    intro above i r hi h hr j hj
    simp only [trees_Shape.l0, Option.bind_some] at h
    by_cases c0 : (i : Int) < (ns.length : Int)
    · have e1 : wrap64 ((i : Int) + 1) = ((i + 1 : Nat) : Int) := by unfold wrap64; omega
      rw [if_pos c0, if_pos (by omega), if_pos (by omega)] at h
      obtain ⟨b, hb, h⟩ := Option.bind_eq_some_iff.1 h
      split at h
      · rw [inner_f] at h
        simp only [Option.bind_some] at h
        rw [e1] at h
        split at h
        · split at h
          · split at h
            · split at h
              · split at h
                · exact ih _ (i + 1) r (by omega) h hr j hj
                · cases h
              · cases h
            · cases h
          · cases h
        · exact ih _ (i + 1) r (by omega) h hr j hj
      · rw [← Option.some.inj h] at hr; cases hr
    · rw [if_neg c0] at h
      split at h
      · split at h
        · refine reach_l1 t0 ns p hp hn k above _ _ r (by decide) h hr (fun s hs => ?_) (fun i hi => ?_) j hj
          · obtain rfl : s = 0 := by simpa using hs
            exact p0
          · exfalso
            unfold rdOf at hi
            rw [List.getD_eq_getElem?_getD, List.getElem?_replicate] at hi
            split at hi <;> cases hi
        · cases h
      · cases h
theorem shape_reach (hn : ns.length ≤ 1759218604441) (k : Nat) (r : Int × Int) (h : trees_Shape.f k t0 ns = some r) (hr : r.1 = 0) : ∀ j : Nat, j < ns.length → p j := by
  intro j hj
  unfold trees_Shape.f at h
  rw [if_neg (by omega)] at h
  split at h
  · split at h
    · exact reach_l0 t0 ns p p0 hp hn k _ 0 r (Nat.zero_le _) h hr j hj
    · cases h
  · cases h
end
end Go.Proofs.YtpeiafamkajedaaDoor.FAll
