/-
  Plain: what the document's tree answers is what the program's answers; and an ensemble that breaks no rule is told so by zeros.
-/
import Derived.Test.YtkemfbocojoagaaDoorPs
import Derived.Test.YtkemfbocojoagaaDoorQc
namespace Go.Proofs.YtkemfbocojoagaaDoor.FAll
open Go.RowKit Go.Proofs.YtkemfbocojoagaaDoorW.PrintWords Go.Proofs.YtkemfbocojoagaaDoorW.PrintLast Go.Proofs.YtkemfbocojoagaaDoorW.PrintMore
set_option linter.unusedVariables false
set_option linter.unusedSimpArgs false

/-- An ensemble's trees as they can stand in memory. -/
def TreesOk (ts : List S36) : Prop := ∀ y ∈ ts, y.f1.length ≤ 1759218604441 ∧ ∀ x ∈ y.f1, x.f3 < 2 ^ 64 ∧ x.f4.length ≤ 17592186043904
section
variable (nm : ByteArray) (fs : List ByteArray) (outs : Int) (bs : List Int) (ts : List S36)
theorem tree_l0 (n t0 : Int) (ns : List S66) (s : Int × Int) (hl : ns.length ≤ 8191) (hx : ∀ x ∈ ns, x.f3 < 2 ^ 64 ∧ x.f4.length ≤ 17592186043904) (hs : Ev (fun k => thicketref07_Shape.f k t0 ns) s) : ∀ d i : Nat, i + d = ns.length →
    Ev (fun k => thicketref08_tree.l0 k n (i : Int) nm fs outs bs ts t0 ns) (match scanF fs.length ns d i with
      | some p => (p.1, n, p.2, true)
      | none => if s.1 = 0 then (0, 0, 0, false) else (20, n, s.2, true)) := by
  intro d
  induction d with
  | zero =>
    intro i hi
    refine Ev.step (f := fun k => _) (fun k => rfl) ?_
    refine evn (by omega) ?_
    refine Ev.bind hs ?_
    show Ev _ (if s.1 = 0 then _ else _)
    by_cases h : s.1 = 0
    · exact evp h (eve (Ev.now _) (if_pos h).symm)
    · refine evn h (eve (Ev.now _) (if_neg h).symm)
  | succ d ih =>
    intro i hi
    have e1 : wrap64 ((i : Int) + 1) = ((i + 1 : Nat) : Int) := by unfold wrap64; omega
    have hmem : rd_T66 ns (i : Int) ∈ ns := by
      unfold rd_T66
      rw [Int.toNat_natCast, List.getD_eq_getElem?_getD, List.getElem?_eq_getElem (by omega)]
      exact List.getElem_mem (by omega)
    obtain ⟨h3, h4⟩ := hx _ hmem
    obtain ⟨kn, hkn⟩ := refNode fs.length (ns.length : Int) (rd_T66 ns (i : Int)) h3 (by omega)
    have gn : Ev (fun k => thicketref08_node.f k (rd_T66 ns (i : Int)).f0 (rd_T66 ns (i : Int)).f1 (rd_T66 ns (i : Int)).f2 (rd_T66 ns (i : Int)).f3 (rd_T66 ns (i : Int)).f4 (rd_T66 ns (i : Int)).f5 (rd_T66 ns (i : Int)).f6 (rd_T66 ns (i : Int)).f7 (fs.length : Int) (ns.length : Int)) (nodeX fs.length (ns.length : Int) (rd_T66 ns (i : Int))) :=
      Ev.of (fun k => thicketref08_node.mono _ _ _ _ _ _ _ _ _ _ k) hkn
    refine Ev.step (f := fun k => _) (fun k => rfl) ?_
    refine evp (by omega) (evp (by omega) ?_)
    refine Ev.bind gn ?_
    unfold scanF
    by_cases h : nodeX fs.length (ns.length : Int) (rd_T66 ns (i : Int)) = 0
    · rw [if_pos h]
      refine evp h ?_
      rw [e1]
      exact ih (i + 1) (by omega)
    · rw [if_neg h]
      refine evn h ?_
      exact Ev.now _
theorem tree_total (hts : TreesOk ts) (n : Nat) (hn : n < ts.length) (hl : ts.length ≤ 65536) :
    ∃ k, thicketref08_tree.f k nm fs outs bs ts (n : Int) = some (refTreeV (treeV fs.length outs (rd_T36 ts (n : Int)).f0 (rd_T36 ts (n : Int)).f1 (shapeV (rd_T36 ts (n : Int)))) n) := by
  have hmem : rd_T36 ts (n : Int) ∈ ts := by
    unfold rd_T36
    rw [Int.toNat_natCast, List.getD_eq_getElem?_getD, List.getElem?_eq_getElem hn]
    exact List.getElem_mem hn
  obtain ⟨y, hy⟩ : ∃ y, y = rd_T36 ts (n : Int) := ⟨_, rfl⟩
  rw [← hy] at hmem ⊢
  obtain ⟨h1, h2⟩ := hts y hmem
  obtain ⟨_, ks, hks⟩ := shapeV_spec y h1 (fun x hx => by have := (h2 x hx).2; omega)
  have gs : Ev (fun k => thicketref07_Shape.f k y.f0 y.f1) (shapeV y) := Ev.of (fun k => thicketref07_Shape.mono _ _ k) hks
  refine Ev.rounds (g := fun k => thicketref08_tree.f k nm fs outs bs ts (n : Int)) ?_
  unfold thicketref08_tree.f
  rw [← hy]
  refine evp (by omega) (evp (by omega) ?_)
  unfold refTreeV treeV
  by_cases q1 : 0 ≤ y.f0 ∧ y.f0 < outs
  · rw [if_pos q1]
    refine evn (by omega) ?_
    rw [decide_eq_false (by omega : ¬ y.f0 ≥ outs)]
    refine Ev.step (f := fun k => _) (fun k => rfl) ?_
    by_cases q2 : 1 ≤ y.f1.length ∧ y.f1.length ≤ 8191
    · rw [if_pos q2]
      refine evn (by omega) ?_
      rw [decide_eq_false (by omega : ¬ (y.f1.length : Int) > 8191)]
      refine Ev.step (f := fun k => _) (fun k => rfl) ?_
      have h := tree_l0 nm fs outs bs ts (n : Int) y.f0 y.f1 (shapeV y) q2.2 h2 gs y.f1.length 0 (by omega)
      refine eve h ?_
      cases hsc : scanF fs.length y.f1 y.f1.length 0 with
      | some p =>
        obtain ⟨p1, p2⟩ := p
        have hp : p1 ≠ 0 := by
          have hne : ∀ (d i : Nat), scanF fs.length y.f1 d i = some (p1, p2) → p1 ≠ 0 := by
            intro d
            induction d with
            | zero => intro i h; cases h
            | succ d ih =>
              intro i h
              unfold scanF at h
              split at h
              · exact ih _ h
              · rename_i hz
                injection h with h
                injection h with h5 h6
                rw [← h5]
                exact hz
          exact hne _ _ hsc
        show (p1, (n : Int), p2, true) = if p1 = 0 then _ else _
        rw [if_neg hp]
      | none =>
        show (if (shapeV y).1 = 0 then _ else _) = if (if (shapeV y).1 = 0 then ((0 : Int), (0 : Int)) else (20, (shapeV y).2)).1 = 0 then _ else _
        by_cases hz : (shapeV y).1 = 0
        · rw [if_pos hz, if_pos hz, if_pos rfl]
        · rw [if_neg hz, if_neg hz, if_neg (show ¬ (20 : Int) = 0 by decide)]
    · rw [if_neg q2]
      show Ev _ ((12 : Int), (n : Int), (-1 : Int), true)
      by_cases q3 : (y.f1.length : Int) < 1
      · refine evp q3 ?_
        refine Ev.step (f := fun k => _) (fun k => rfl) ?_
        exact Ev.now _
      · refine evn q3 ?_
        rw [decide_eq_true (by omega : (y.f1.length : Int) > 8191)]
        refine Ev.step (f := fun k => _) (fun k => rfl) ?_
        exact Ev.now _
  · rw [if_neg q1]
    show Ev _ ((11 : Int), (n : Int), (-1 : Int), true)
    by_cases q3 : y.f0 < 0
    · refine evp q3 ?_
      refine Ev.step (f := fun k => _) (fun k => rfl) ?_
      exact Ev.now _
    · refine evn q3 ?_
      rw [decide_eq_true (by omega : y.f0 ≥ outs)]
      refine Ev.step (f := fun k => _) (fun k => rfl) ?_
      exact Ev.now _
end

theorem featV_ne (fs : List ByteArray) : ∀ d i p, featV fs d i = some p → p.1 ≠ 0 := by
  intro d
  induction d with
  | zero => intro i p h; cases h
  | succ d ih =>
    intro i p h
    unfold featV at h
    split at h
    · rename_i hz
      injection h with h
      subst h
      unfold c2Head at hz ⊢
      split at hz
      · split at hz
        · cases hz
        · rename_i h1 h2; rw [if_pos h1, if_neg h2]; exact (by decide : (4 : Int) ≠ 0)
      · rename_i h1; rw [if_neg h1]; exact (by decide : (3 : Int) ≠ 0)
    · exact ih _ _ h
theorem treesV_ne (sh : S36 → Int × Int) (nf : Nat) (outs : Int) (ts : List S36) : ∀ d i p, treesV sh nf outs ts d i = some p → p.1 ≠ 0 := by
  intro d
  induction d with
  | zero => intro i p h; cases h
  | succ d ih =>
    intro i p h
    unfold treesV at h
    split at h
    · exact ih _ _ h
    · rename_i hz
      injection h with h
      subst h
      exact hz
theorem check_zero (sh : S36 → Int × Int) (nm : ByteArray) (fs : List ByteArray) (outs : Int) (bs : List Int) (ts : List S36) {r1 r2 r3 : Int} (h : checkV sh nm fs outs bs ts = (r1, r2, r3)) (hz : r1 = 0) : r2 = 0 ∧ r3 = 0 := by
  subst hz
  unfold checkV at h
  split at h
  · rename_i h1
    exfalso
    injection h with h _
    unfold c1Head at h1 h
    split at h1
    · split at h1
      · cases h1
      · rename_i a b; rw [if_pos a, if_neg b] at h; cases h
    · rename_i a; rw [if_neg a] at h; cases h
  · unfold featTail at h
    cases hf : featV fs fs.length 0 with
    | some p =>
      rw [hf] at h
      injection h with h _
      exact absurd h (featV_ne fs _ _ p hf)
    | none =>
      rw [hf] at h
      replace h : c3Tail sh fs outs bs ts = (0, r2, r3) := h
      unfold c3Tail at h
      split at h
      · rename_i h1
        exfalso
        injection h with h _
        unfold c3Head at h1 h
        split at h1
        · split at h1
          · split at h1
            · cases h1
            · rename_i a b c; rw [if_pos a, if_pos b, if_neg c] at h; cases h
          · rename_i a b; rw [if_pos a, if_neg b] at h; cases h
        · rename_i a; rw [if_neg a] at h; cases h
      · unfold treesTail at h
        cases ht : treesV sh fs.length outs ts ts.length 0 with
        | some p =>
          rw [ht] at h
          replace h : p = (0, r2, r3) := h
          have := treesV_ne sh fs.length outs ts _ _ p ht
          rw [h] at this
          exact absurd rfl this
        | none =>
          rw [ht] at h
          replace h : sumsTail bs ts = (0, r2, r3) := h
          unfold sumsTail at h
          cases hs : sumsV (roomsL bs ts) bs.length 0 with
          | some k =>
            rw [hs] at h
            injection h with h _
            cases h
          | none =>
            rw [hs] at h
            injection h with _ h
            injection h with h1 h2
            exact ⟨h1.symm, h2.symm⟩
end Go.Proofs.YtkemfbocojoagaaDoor.FAll
