/-
  Plain: what rules.Check's OK means.
-/
import Derived.Test.YtpeiafamkajedaaDoorRj
namespace Go.Proofs.YtpeiafamkajedaaDoor.FAll
open Go.RowKit Go.Proofs.YtpeiafamkajedaaDoorW.PrintWords Go.Proofs.YtpeiafamkajedaaDoorW.PrintLast Go.Proofs.YtpeiafamkajedaaDoorW.PrintMore
set_option linter.unusedVariables false
set_option linter.unusedSimpArgs false
theorem featV_ne (fs : List ByteArray) : ∀ d i p, featV fs d i = some p → p.1 ≠ 0 := by
  intro d
  induction d with
  | zero => intro i p h; cases h
  | succ d ih =>
    intro i p h
    unfold featV at h
    split at h
    · rename_i hz
      injection h with h
      subst h
      unfold c2Head at hz ⊢
      split at hz
      · split at hz
        · cases hz
        · rename_i h1 h2; rw [if_pos h1, if_neg h2]; exact (by decide : (4 : Int) ≠ 0)
      · rename_i h1; rw [if_neg h1]; exact (by decide : (3 : Int) ≠ 0)
    · exact ih _ _ h
theorem treesV_ne (sh : S37 → Int × Int) (nf : Nat) (outs : Int) (ts : List S37) : ∀ d i p, treesV sh nf outs ts d i = some p → p.1 ≠ 0 := by
  intro d
  induction d with
  | zero => intro i p h; cases h
  | succ d ih =>
    intro i p h
    unfold treesV at h
    split at h
    · exact ih _ _ h
    · rename_i hz
      injection h with h
      subst h
      exact hz
theorem check_zero (sh : S37 → Int × Int) (nm : ByteArray) (fs : List ByteArray) (outs : Int) (bs : List Int) (ts : List S37) {r1 r2 r3 : Int} (h : checkV sh nm fs outs bs ts = (r1, r2, r3)) (hz : r1 = 0) : r2 = 0 ∧ r3 = 0 := by
  subst hz
  unfold checkV at h
  split at h
  · rename_i h1
    exfalso
    injection h with h _
    unfold c1Head at h1 h
    split at h1
    · split at h1
      · cases h1
      · rename_i a b; rw [if_pos a, if_neg b] at h; cases h
    · rename_i a; rw [if_neg a] at h; cases h
  · unfold featTail at h
    cases hf : featV fs fs.length 0 with
    | some p =>
      rw [hf] at h
      injection h with h _
      exact absurd h (featV_ne fs _ _ p hf)
    | none =>
      rw [hf] at h
      replace h : c3Tail sh fs outs bs ts = (0, r2, r3) := h
      unfold c3Tail at h
      split at h
      · rename_i h1
        exfalso
        injection h with h _
        unfold c3Head at h1 h
        split at h1
        · split at h1
          · split at h1
            · cases h1
            · rename_i a b c; rw [if_pos a, if_pos b, if_neg c] at h; cases h
          · rename_i a b; rw [if_pos a, if_neg b] at h; cases h
        · rename_i a; rw [if_neg a] at h; cases h
      · unfold treesTail at h
        cases ht : treesV sh fs.length outs ts ts.length 0 with
        | some p =>
          rw [ht] at h
          replace h : p = (0, r2, r3) := h
          have := treesV_ne sh fs.length outs ts _ _ p ht
          rw [h] at this
          exact absurd rfl this
        | none =>
          rw [ht] at h
          replace h : sumsTail bs ts = (0, r2, r3) := h
          unfold sumsTail at h
          cases hs : sumsV (roomsL bs ts) bs.length 0 with
          | some k =>
            rw [hs] at h
            injection h with h _
            cases h
          | none =>
            rw [hs] at h
            injection h with _ h
            injection h with h1 h2
            exact ⟨h1.symm, h2.symm⟩
/-- What OK says of the ensemble. -/
structure CheckGood (sh : S37 → Int × Int) (nm : ByteArray) (fs : List ByteArray) (outs : Int) (bs : List Int) (ts : List S37) : Prop where
  fsl : 1 ≤ fs.length ∧ fs.length ≤ 65536
  outs1 : 1 ≤ outs ∧ outs ≤ 64
  base : (bs.length : Int) = outs
  few : ts.length ≤ 65536
  names : featV fs fs.length 0 = none
  trees : treesV sh fs.length outs ts ts.length 0 = none
  sums : sumsV (roomsL bs ts) bs.length 0 = none
theorem check_good (sh : S37 → Int × Int) (nm : ByteArray) (fs : List ByteArray) (outs : Int) (bs : List Int) (ts : List S37) (h : checkV sh nm fs outs bs ts = (0, 0, 0)) : CheckGood sh nm fs outs bs ts := by
  unfold checkV at h
  split at h
  · rename_i h1
    exfalso
    injection h with h _
    unfold c1Head at h1 h
    split at h1
    · split at h1
      · cases h1
      · rename_i a b; rw [if_pos a, if_neg b] at h; cases h
    · rename_i a; rw [if_neg a] at h; cases h
  · rename_i h1
    have f1 : 1 ≤ fs.length ∧ fs.length ≤ 65536 := by
      unfold c1Head at h1
      split at h1
      · split at h1
        · assumption
        · exact absurd rfl h1
      · exact absurd rfl h1
    unfold featTail at h
    cases hf : featV fs fs.length 0 with
    | some p =>
      rw [hf] at h
      injection h with h _
      exact absurd h (featV_ne fs _ _ p hf)
    | none =>
      rw [hf] at h
      replace h : c3Tail sh fs outs bs ts = (0, 0, 0) := h
      unfold c3Tail at h
      split at h
      · rename_i h1
        exfalso
        injection h with h _
        unfold c3Head at h1 h
        split at h1
        · split at h1
          · split at h1
            · cases h1
            · rename_i a b c; rw [if_pos a, if_pos b, if_neg c] at h; cases h
          · rename_i a b; rw [if_pos a, if_neg b] at h; cases h
        · rename_i a; rw [if_neg a] at h; cases h
      · rename_i h3
        have f3 : (1 ≤ outs ∧ outs ≤ 64) ∧ (bs.length : Int) = outs ∧ ts.length ≤ 65536 := by
          unfold c3Head at h3
          split at h3
          · split at h3
            · split at h3
              · exact ⟨by assumption, by assumption, by assumption⟩
              · exact absurd rfl h3
            · exact absurd rfl h3
          · exact absurd rfl h3
        unfold treesTail at h
        cases ht : treesV sh fs.length outs ts ts.length 0 with
        | some p =>
          rw [ht] at h
          replace h : p = (0, 0, 0) := h
          have := treesV_ne sh fs.length outs ts _ _ p ht
          rw [h] at this
          exact absurd rfl this
        | none =>
          rw [ht] at h
          replace h : sumsTail bs ts = (0, 0, 0) := h
          unfold sumsTail at h
          cases hs : sumsV (roomsL bs ts) bs.length 0 with
          | some k =>
            rw [hs] at h
            injection h with h _
            cases h
          | none => exact ⟨f1, f3.1, f3.2.1, f3.2.2, hf, ht, hs⟩
theorem treesV_all (sh : S37 → Int × Int) (nf : Nat) (outs : Int) (ts : List S37) : ∀ d i, treesV sh nf outs ts d i = none → ∀ j, i ≤ j → j < i + d → (treeV nf outs (rd_T37 ts (j : Int)).f0 (rd_T37 ts (j : Int)).f1 (sh (rd_T37 ts (j : Int)))).1 = 0 := by
  intro d
  induction d with
  | zero => intro i _ j h1 h2; omega
  | succ d ih =>
    intro i h j h1 h2
    unfold treesV at h
    split at h
    · rename_i hz
      by_cases e : j = i
      · subst e; exact hz
      · exact ih (i + 1) h j (by omega) (by omega)
    · cases h
theorem scanF_all (nf : Nat) (ns : List S65) : ∀ d i, scanF nf ns d i = none → ∀ j, i ≤ j → j < i + d → nodeX nf ns.length (rd_T65 ns (j : Int)) = 0 := by
  intro d
  induction d with
  | zero => intro i _ j h1 h2; omega
  | succ d ih =>
    intro i h j h1 h2
    unfold scanF at h
    split at h
    · rename_i hz
      by_cases e : j = i
      · subst e; exact hz
      · exact ih (i + 1) h j (by omega) (by omega)
    · cases h
theorem scanF_ne (nf : Nat) (ns : List S65) : ∀ d i p, scanF nf ns d i = some p → p.1 ≠ 0 := by
  intro d
  induction d with
  | zero => intro i p h; cases h
  | succ d ih =>
    intro i p h
    unfold scanF at h
    split at h
    · exact ih _ _ h
    · rename_i hz
      injection h with h
      subst h
      exact hz
theorem treeV_good {nf : Nat} {outs t0 : Int} {ns : List S65} {s : Int × Int} (h : (treeV nf outs t0 ns s).1 = 0) : (0 ≤ t0 ∧ t0 < outs) ∧ (1 ≤ ns.length ∧ ns.length ≤ 8191) ∧ (∀ j : Nat, j < ns.length → nodeX nf ns.length (rd_T65 ns (j : Int)) = 0) ∧ s.1 = 0 := by
  unfold treeV at h
  split at h
  · rename_i h1
    split at h
    · rename_i h2
      cases hs : scanF nf ns ns.length 0 with
      | some p =>
        rw [hs] at h
        exact absurd h (scanF_ne nf ns _ _ p hs)
      | none =>
        rw [hs] at h
        replace h : (if s.1 = 0 then ((0 : Int), (0 : Int)) else (20, s.2)).1 = 0 := h
        split at h
        · rename_i h3
          exact ⟨h1, h2, fun j hj => scanF_all nf ns _ _ hs j (by omega) (by omega), h3⟩
        · exact absurd (show (20 : Int) = 0 from h) (by decide)
    · exact absurd (show (12 : Int) = 0 from h) (by decide)
  · exact absurd (show (11 : Int) = 0 from h) (by decide)
theorem nodeX_feat {nf : Nat} {n : Int} {y : S65} (h : nodeX nf n y = 0) (hi : y.f0 ≠ 1) : 0 ≤ y.f2 ∧ y.f2 < (nf : Int) := by
  unfold nodeX nodeV at h
  split at h
  · split at h
    · split at h
      · rename_i h3
        rcases of_decide_eq_true h3 with h4 | h4
        · have : (y.f0 != 1) = true := by simpa using hi
          rw [this] at h4
          cases h4
        · exact h4
      · exact absurd (show (15 : Int) = 0 from h) (by decide)
    · exact absurd (show (14 : Int) = 0 from h) (by decide)
  · exact absurd (show (13 : Int) = 0 from h) (by decide)
end Go.Proofs.YtpeiafamkajedaaDoor.FAll
