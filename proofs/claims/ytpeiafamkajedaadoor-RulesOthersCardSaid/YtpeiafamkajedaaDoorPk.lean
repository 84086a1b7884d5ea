/-
  Plain: where each node may be so, each but the root hangs below one other, once, and all are come by from the root, Shape answers OK.
-/
import Derived.Test.YtpeiafamkajedaaDoorPh
namespace Go.Proofs.YtpeiafamkajedaaDoor.FAll
open Go.RowKit Go.Proofs.YtpeiafamkajedaaDoorW.PrintWords Go.Proofs.YtpeiafamkajedaaDoorW.PrintLast Go.Proofs.YtpeiafamkajedaaDoorW.PrintMore
set_option linter.unusedVariables false
set_option linter.unusedSimpArgs false
set_option linter.unusedSectionVars false
section
variable (t0 : Int) (ns : List S65)
/-- What holds of the root, and of what hangs below what it holds of, holds of all. -/
def Reach : Prop := ∀ p : Nat → Prop, p 0 → (∀ j : Nat, j < ns.length → p j → (rd_T65 ns (j : Int)).f0 ≠ 1 → p (rd_T65 ns (j : Int)).f6.toNat ∧ p (rd_T65 ns (j : Int)).f7.toNat) → ∀ j : Nat, j < ns.length → p j
theorem shapeK_l2 (above : List Int) (reached : List Bool) (ha : above.length = ns.length) (hr : reached.length = ns.length) (hn : ns.length ≤ 1759218604441) (h1 : ∀ j : Nat, j < ns.length → rd above (j : Int) = if j = 0 then 0 else 1) (h2 : ∀ j : Nat, j < ns.length → rdOf false reached (j : Int) = true) :
    ∀ d i : Nat, i + d = ns.length → Ev (fun k => trees_Shape.l2 k above reached (ns.length : Int) (i : Int)) ((0 : Int), (0 : Int)) := by
  intro d
  induction d with
  | zero => intro i hi; exact Ev.step (f := fun k => _) (fun k => rfl) (evn (by omega) (Ev.now _))
  | succ d ih =>
    intro i hi
    have e1 : wrap64 ((i : Int) + 1) = ((i + 1 : Nat) : Int) := by unfold wrap64; omega
    have hmn : mn (i : Int) 1 = if i = 0 then 0 else 1 := by unfold mn; split <;> split <;> omega
    refine Ev.step (f := fun k => _) (fun k => rfl) ?_
    refine evp (by omega) (evp (by omega) (evp (by omega) (evp (by rw [h1 i (by omega), hmn]) (evp (by omega) (evp (h2 i (by omega)) ?_)))))
    rw [e1]
    exact ih (i + 1) (by omega)
theorem rdOf_set (l : List Bool) (a x : Nat) (ha : a < l.length) : rdOf false (l.set a true) (x : Int) = if x = a then true else rdOf false l (x : Int) := by
  unfold rdOf
  rw [Int.toNat_natCast, List.getD_eq_getElem?_getD, List.getD_eq_getElem?_getD, List.getElem?_set]
  by_cases h : x = a
  · subst h
    rw [if_pos rfl, if_pos ha, if_pos rfl]
    rfl
  · rw [if_neg (Ne.symm h), if_neg h]
theorem mem_last {l : List Int} (h : l.length ≠ 0) {s : Int} (hs : s ∈ l) : s ∈ l.take (l.length - 1) ∨ s = rd l ((l.length - 1 : Nat) : Int) := by
  obtain ⟨i, hi, rfl⟩ := List.getElem_of_mem hs
  by_cases e : i = l.length - 1
  · right
    subst e
    unfold rd
    rw [Int.toNat_natCast, List.getD_eq_getElem?_getD, List.getElem?_eq_getElem (by omega)]
    rfl
  · left
    have : (l.take (l.length - 1))[i]? = some l[i] := by
      rw [List.getElem?_take, if_pos (by omega), List.getElem?_eq_getElem hi]
    exact List.mem_of_getElem? this
theorem shapeK_l1 (above : List Int) (ha : above.length = ns.length) (hn : ns.length ≤ 1759218604441) (h0 : ∀ j : Nat, j < ns.length → rightB (rd_T65 ns (j : Int)) (ns.length : Int) = true) (h1 : ∀ j : Nat, j < ns.length → rd above (j : Int) = if j = 0 then 0 else 1) (hR : Reach ns) : ∀ (m : Nat), m ≤ 5000000000000 → ∀ (reached : List Bool) (stack : List Int), reached.length = ns.length → (∀ s ∈ stack, 0 ≤ s ∧ s < (ns.length : Int)) →
    (rdOf false reached 0 = true ∨ (0 : Int) ∈ stack) → (∀ j : Nat, j < ns.length → rdOf false reached (j : Int) = true → (rd_T65 ns (j : Int)).f0 ≠ 1 → (rdOf false reached (rd_T65 ns (j : Int)).f6 = true ∨ (rd_T65 ns (j : Int)).f6 ∈ stack) ∧ (rdOf false reached (rd_T65 ns (j : Int)).f7 = true ∨ (rd_T65 ns (j : Int)).f7 ∈ stack)) →
    2 * reached.countP (fun b => !b) + stack.length ≤ m →
    Ev (fun k => trees_Shape.l1 k above reached stack t0 ns) ((0 : Int), (0 : Int)) := by
  intro m
  have fin : ∀ (reached : List Bool) (stack : List Int), reached.length = ns.length → stack.length = 0 → (rdOf false reached 0 = true ∨ (0 : Int) ∈ stack) → (∀ j : Nat, j < ns.length → rdOf false reached (j : Int) = true → (rd_T65 ns (j : Int)).f0 ≠ 1 → (rdOf false reached (rd_T65 ns (j : Int)).f6 = true ∨ (rd_T65 ns (j : Int)).f6 ∈ stack) ∧ (rdOf false reached (rd_T65 ns (j : Int)).f7 = true ∨ (rd_T65 ns (j : Int)).f7 ∈ stack)) → Ev (fun k => trees_Shape.l1 k above reached stack t0 ns) ((0 : Int), (0 : Int)) := by
    intro reached stack hr hl hz hc
    obtain rfl : stack = [] := List.eq_nil_of_length_eq_zero hl
    have hall : ∀ j : Nat, j < ns.length → rdOf false reached (j : Int) = true := by
      refine hR (fun j => rdOf false reached (j : Int) = true) ?_ ?_
      · rcases hz with h | h
        · exact h
        · cases h
      · intro j hj hp hk
        obtain ⟨c6, c7⟩ := hc j hj hp hk
        rcases right_kids (h0 j hj) with h | ⟨_, k6, _, k7, _⟩
        · exact absurd h hk
        · constructor
          · rcases c6 with h | h
            · rw [show (((rd_T65 ns (j : Int)).f6.toNat : Nat) : Int) = (rd_T65 ns (j : Int)).f6 by omega]; exact h
            · cases h
          · rcases c7 with h | h
            · rw [show (((rd_T65 ns (j : Int)).f7.toNat : Nat) : Int) = (rd_T65 ns (j : Int)).f7 by omega]; exact h
            · cases h
    exact Ev.step (f := fun k => _) (fun k => rfl) (evn (by decide) (shapeK_l2 ns above reached ha hr hn h1 hall ns.length 0 (by omega)))
  induction m with
  | zero =>
    intro hmb reached stack hr hs hz hc hm
    exact fin reached stack hr (by omega) hz hc
  | succ m ih =>
    intro hmb reached stack hr hs hz hc hm
    replace ih := ih (by omega)
    by_cases hl : stack.length = 0
    · exact fin reached stack hr hl hz hc
    · have hcp : reached.countP (fun b => !b) ≤ ns.length := by rw [← hr]; exact List.countP_le_length
      have hbig : stack.length ≤ 5000000000000 := by omega
      have ew : wrap64 ((stack.length : Int) - 1) = ((stack.length - 1 : Nat) : Int) := by unfold wrap64; omega
      have hlast : ∀ s ∈ stack, s ∈ stack.take (stack.length - 1) ∨ s = rd stack ((stack.length - 1 : Nat) : Int) := fun s h => mem_last hl h
      obtain ⟨s, hse⟩ : ∃ s, s = rd stack ((stack.length - 1 : Nat) : Int) := ⟨_, rfl⟩
      have hsm : s ∈ stack := by
        rw [hse]
        unfold rd
        rw [Int.toNat_natCast, List.getD_eq_getElem?_getD, List.getElem?_eq_getElem (by omega)]
        exact List.getElem_mem (by omega)
      obtain ⟨hs0, hs1⟩ := hs s hsm
      obtain ⟨j, rfl⟩ := Int.eq_ofNat_of_zero_le hs0
      rw [← hse] at hlast
      have hj : j < ns.length := by omega
      have ht : (stack.take (stack.length - 1)).length = stack.length - 1 := by rw [List.length_take]; omega
      have htm : ∀ s ∈ stack.take (stack.length - 1), 0 ≤ s ∧ s < (ns.length : Int) := fun s h => hs s (List.mem_of_mem_take h)
      by_cases hre : rdOf false reached (j : Int) = true
      · have back : ∀ x : Int, (rdOf false reached x = true ∨ x ∈ stack) → (rdOf false reached x = true ∨ x ∈ stack.take (stack.length - 1)) := by
          intro x h
          rcases h with h | h
          · exact .inl h
          · rcases hlast x h with h | rfl
            · exact .inr h
            · exact .inl hre
        have h2 := ih reached (stack.take (stack.length - 1)) hr htm (back 0 hz) (fun i hi hp hk => ⟨back _ (hc i hi hp hk).1, back _ (hc i hi hp hk).2⟩) (by rw [ht]; omega)
        refine Ev.step (f := fun k => _) (fun k => rfl) ?_
        refine evp (by omega) ?_
        rw [ew, ← hse]
        refine evp (by omega) (evp (by omega) (evp (by omega) ?_))
        refine Ev.congr (fun k => Option.bind_some _ _) ?_
        refine evp (by omega) (evp (by omega) (evp hre ?_))
        rw [Int.toNat_natCast]; exact h2
      · have hrf : reached.getD j false = false := by
          have h : ¬ reached.getD (j : Int).toNat false = true := hre
          rw [Int.toNat_natCast] at h
          exact Bool.eq_false_iff.mpr h
        have hcm := countP_mark reached j (by omega) hrf
        have hlen : (reached.set j true).length = ns.length := by rw [List.length_set]; exact hr
        have keep : ∀ x : Int, 0 ≤ x → rdOf false reached x = true → rdOf false (reached.set j true) x = true := by
          intro x hx h
          obtain ⟨y, rfl⟩ := Int.eq_ofNat_of_zero_le hx
          rw [rdOf_set reached j y (by omega)]
          split
          · rfl
          · exact h
        have own : rdOf false (reached.set j true) (j : Int) = true := by rw [rdOf_set reached j j (by omega), if_pos rfl]
        have old : ∀ i : Nat, i ≠ j → rdOf false (reached.set j true) (i : Int) = true → rdOf false reached (i : Int) = true := by
          intro i hij h
          rw [rdOf_set reached j i (by omega), if_neg hij] at h
          exact h
        have nonneg6 : ∀ i : Nat, i < ns.length → (rd_T65 ns (i : Int)).f0 ≠ 1 → 0 ≤ (rd_T65 ns (i : Int)).f6 ∧ 0 ≤ (rd_T65 ns (i : Int)).f7 := by
          intro i hi hk
          rcases right_kids (h0 i hi) with h | ⟨_, k6, _, k7, _⟩
          · exact absurd h hk
          · exact ⟨by omega, by omega⟩
        rcases right_kids (h0 j hj) with hleaf | ⟨hin, k6, k6', k7, k7'⟩
        · have back : ∀ x : Int, 0 ≤ x → (rdOf false reached x = true ∨ x ∈ stack) → (rdOf false (reached.set j true) x = true ∨ x ∈ stack.take (stack.length - 1)) := by
            intro x hx h
            rcases h with h | h
            · exact .inl (keep x hx h)
            · rcases hlast x h with h | rfl
              · exact .inr h
              · exact .inl own
          have h2 := ih (reached.set j true) (stack.take (stack.length - 1)) hlen htm (back 0 (Int.le_refl _) hz) (fun i hi hp hk => by
            by_cases e : i = j
            · subst e; exact absurd hleaf hk
            · have hcc := hc i hi (old i e hp) hk
              have hnn := nonneg6 i hi hk
              exact ⟨back _ hnn.1 hcc.1, back _ hnn.2 hcc.2⟩) (by rw [ht]; omega)
          refine Ev.step (f := fun k => _) (fun k => rfl) ?_
          refine evp (by omega) ?_
          rw [ew, ← hse]
          refine evp (by omega) (evp (by omega) (evp (by omega) ?_))
          refine Ev.congr (fun k => Option.bind_some _ _) ?_
          refine evp (by omega) (evp (by omega) (evn hre ?_))
          refine Ev.congr (fun k => Option.bind_some _ _) ?_
          refine evp (by omega) ?_
          rw [inner_leaf hleaf]
          refine Ev.congr (fun k => Option.bind_some _ _) ?_
          refine evn (by decide) ?_
          rw [Int.toNat_natCast, Int.toNat_natCast]; exact h2
        · have back : ∀ x : Int, 0 ≤ x → (rdOf false reached x = true ∨ x ∈ stack) → (rdOf false (reached.set j true) x = true ∨ x ∈ stack.take (stack.length - 1) ++ [(rd_T65 ns (j : Int)).f6, (rd_T65 ns (j : Int)).f7]) := by
            intro x hx h
            rcases h with h | h
            · exact .inl (keep x hx h)
            · rcases hlast x h with h | rfl
              · exact .inr (List.mem_append_left _ h)
              · exact .inl own
          have h2 := ih (reached.set j true) (stack.take (stack.length - 1) ++ [(rd_T65 ns (j : Int)).f6, (rd_T65 ns (j : Int)).f7]) hlen (by
              intro s h
              rcases List.mem_append.1 h with h | h
              · exact htm s h
              · rcases List.mem_cons.1 h with rfl | h
                · exact ⟨by omega, k6'⟩
                · rcases List.mem_cons.1 h with rfl | h
                  · exact ⟨by omega, k7'⟩
                  · cases h) (back 0 (Int.le_refl _) hz) (fun i hi hp hk => by
            by_cases e : i = j
            · subst e; exact ⟨.inr (List.mem_append_right _ (List.mem_cons_self ..)), .inr (List.mem_append_right _ (List.mem_cons_of_mem _ (List.mem_cons_self ..)))⟩
            · have hcc := hc i hi (old i e hp) hk
              have hnn := nonneg6 i hi hk
              exact ⟨back _ hnn.1 hcc.1, back _ hnn.2 hcc.2⟩) (by rw [List.length_append, ht]; simp only [List.length_cons, List.length_nil]; omega)
          refine Ev.step (f := fun k => _) (fun k => rfl) ?_
          refine evp (by omega) ?_
          rw [ew, ← hse]
          refine evp (by omega) (evp (by omega) (evp (by omega) ?_))
          refine Ev.congr (fun k => Option.bind_some _ _) ?_
          refine evp (by omega) (evp (by omega) (evn hre ?_))
          refine Ev.congr (fun k => Option.bind_some _ _) ?_
          refine evp (by omega) ?_
          rw [inner_in hin]
          refine Ev.congr (fun k => Option.bind_some _ _) ?_
          refine evp rfl ?_
          refine Ev.congr (fun k => Option.bind_some _ _) ?_
          refine evp (by simp only [Int.toNat_natCast, ht, List.length_cons, List.length_nil]; omega) ?_
          rw [Int.toNat_natCast, Int.toNat_natCast]; exact h2

theorem shapeK_l0 (hn : ns.length ≤ 1759218604441) (hz : ns.length ≠ 0) (hcats : ∀ y ∈ ns, y.f4.length ≤ 9223372036854775807) (h0 : ∀ j : Nat, j < ns.length → rightB (rd_T65 ns (j : Int)) (ns.length : Int) = true) (hR : Reach ns) : ∀ (d i : Nat) (above : List Int), i + d = ns.length → above.length = ns.length → (∀ x : Int, 0 ≤ x → 0 ≤ rd above x ∧ rd above x ≤ 2 * (i : Int)) → (∀ j : Nat, j < ns.length → rd above (j : Int) + kidsC ns d i (j : Int) = if j = 0 then 0 else 1) →
    Ev (fun k => trees_Shape.l0 k above ns (ns.length : Int) (i : Int) t0 ns) ((0 : Int), (0 : Int)) := by
  intro d
  induction d with
  | zero =>
    intro i above hi ha hb hk
    obtain rfl : i = ns.length := by omega
    have hc : 2 * (List.replicate ns.length false).countP (fun b => !b) + ([0] : List Int).length ≤ 2 * ns.length + 1 := by
      have h := List.countP_le_length (p := fun b : Bool => !b) (l := List.replicate ns.length false)
      rw [List.length_replicate] at h
      simp only [List.length_cons, List.length_nil]
      omega
    have hs0 : ∀ s ∈ ([0] : List Int), 0 ≤ s ∧ s < (ns.length : Int) := by
      intro s h
      obtain rfl : s = 0 := by simpa using h
      omega
    have hrep : ∀ j : Nat, ¬ rdOf false (List.replicate ns.length false) (j : Int) = true := by
      intro j
      unfold rdOf
      rw [List.getD_eq_getElem?_getD, List.getElem?_replicate]
      split <;> simp
    have h1 := shapeK_l1 t0 ns above ha hn h0 (fun j hj => by have := hk j hj; unfold kidsC at this; omega) hR (2 * ns.length + 1) (by omega) (List.replicate ns.length false) [0] (List.length_replicate) hs0 (.inr (List.mem_cons_self ..)) (fun j hj hp => absurd hp (hrep j)) hc
    refine Ev.step (f := fun k => _) (fun k => rfl) ?_
    refine evn (by omega) (evp (by omega) (evp (by omega) ?_))
    rw [Int.toNat_natCast]; exact h1
  | succ d ih =>
    intro i above hi ha hbd hk
    have e1 : wrap64 ((i : Int) + 1) = ((i + 1 : Nat) : Int) := by unfold wrap64; omega
    have hmem : rd_T65 ns (i : Int) ∈ ns := by
      unfold rd_T65
      rw [Int.toNat_natCast, List.getD_eq_getElem?_getD, List.getElem?_eq_getElem (by omega)]
      exact List.getElem_mem (by omega)
    have gT := rightT (rd_T65 ns (i : Int)) (ns.length : Int) (hcats _ hmem)
    have hb := h0 i (by omega)
    rw [hb] at gT
    rcases right_kids hb with hleaf | ⟨hin, k6, k6', k7, k7'⟩
    · have h1 := ih (i + 1) above (by omega) ha (fun x hx => by have := hbd x hx; omega) (fun j hj => by
        have h3 := hk j hj
        have h4 : kidC (rd_T65 ns (i : Int)) (j : Int) = 0 := by unfold kidC; rw [if_pos hleaf]
        unfold kidsC at h3
        omega)
      refine Ev.step (f := fun k => _) (fun k => rfl) ?_
      refine evp (by omega) (evp (by omega) (evp (by omega) ?_))
      refine Ev.bind gT (evp rfl ?_)
      rw [inner_leaf hleaf]
      refine Ev.congr (fun k => Option.bind_some _ _) ?_
      refine evn (by decide) ?_
      rw [e1]; exact h1
    · have hleaf : ¬ (rd_T65 ns (i : Int)).f0 = 1 := by omega
      obtain ⟨y1, hy1⟩ : ∃ y1, y1 = above.set (rd_T65 ns (i : Int)).f6.toNat (wrap64 (rd above (rd_T65 ns (i : Int)).f6 + 1)) := ⟨_, rfl⟩
      have hy1l : y1.length = ns.length := by rw [hy1, List.length_set]; exact ha
      obtain ⟨y2, hy2⟩ : ∃ y2, y2 = y1.set (rd_T65 ns (i : Int)).f7.toNat (wrap64 (rd y1 (rd_T65 ns (i : Int)).f7 + 1)) := ⟨_, rfl⟩
      have hr1 : ∀ x : Int, 0 ≤ x → rd y1 x = if x = (rd_T65 ns (i : Int)).f6 then rd above x + 1 else rd above x := by
        intro x hx
        rw [hy1, rd_set' _ _ _ _ (by omega) hx]
        split
        · rename_i h
          subst h
          have := hbd _ hx
          unfold wrap64
          omega
        · rfl
      have hr2 : ∀ x : Int, 0 ≤ x → rd y2 x = rd above x + kidC (rd_T65 ns (i : Int)) x := by
        intro x hx
        have h3 := hbd x hx
        have h4 := hr1 x hx
        rw [hy2, rd_set' _ _ _ _ (by omega) hx]
        unfold kidC
        rw [if_neg hleaf]
        by_cases g6 : x = (rd_T65 ns (i : Int)).f6
        · rw [if_pos g6] at h4
          rw [if_pos g6.symm]
          by_cases g7 : x = (rd_T65 ns (i : Int)).f7
          · rw [if_pos g7, if_pos g7.symm, ← g7]
            unfold wrap64
            omega
          · rw [if_neg g7, if_neg (Ne.symm g7)]
            omega
        · rw [if_neg g6] at h4
          rw [if_neg (Ne.symm g6)]
          by_cases g7 : x = (rd_T65 ns (i : Int)).f7
          · rw [if_pos g7, if_pos g7.symm, ← g7]
            unfold wrap64
            omega
          · rw [if_neg g7, if_neg (Ne.symm g7)]
            omega
      have h1 := ih (i + 1) y2 (by omega) (by rw [hy2, List.length_set]; exact hy1l) (fun x hx => by have h3 := hbd x hx; have h4 := hr2 x hx; have h5 := kidC_nonneg (rd_T65 ns (i : Int)) x; omega) (fun j hj => by
        have h3 := hk j hj
        have h4 := hr2 (j : Int) (by omega)
        unfold kidsC at h3
        omega)
      refine Ev.step (f := fun k => _) (fun k => rfl) ?_
      refine evp (by omega) (evp (by omega) (evp (by omega) ?_))
      refine Ev.bind gT (evp rfl ?_)
      rw [inner_in hin]
      refine Ev.congr (fun k => Option.bind_some _ _) ?_
      refine evp rfl (evp (by omega) (evp (by omega) ?_))
      refine Ev.congr (fun k => Option.bind_some _ _) ?_
      refine evp (by omega) (evp (by omega) ?_)
      rw [e1, ← hy1, ← hy2]; exact h1
/-- Shape answers OK. -/
theorem shape_ok (hn : ns.length ≤ 1759218604441) (hcats : ∀ y ∈ ns, y.f4.length ≤ 9223372036854775807) (fine : TreeFine ns) (hR : Reach ns) : ∃ k, trees_Shape.f k t0 ns = some (0, 0) := by
  have hz : ns.length ≠ 0 := by have := fine.some; omega
  have hrep : ∀ x : Int, rd (List.replicate ns.length 0) x = 0 := by
    intro x
    unfold rd
    rw [List.getD_eq_getElem?_getD, List.getElem?_replicate]
    split <;> rfl
  obtain ⟨k1, h1⟩ := (shapeK_l0 t0 ns hn hz hcats fine.fit hR ns.length 0 (List.replicate ns.length 0) (by omega) (List.length_replicate) (fun x hx => by rw [hrep]; omega) (fun j hj => by rw [hrep]; have := fine.once j hj; omega)).rounds
  refine ⟨k1, ?_⟩
  unfold trees_Shape.f
  rw [if_neg (by omega), if_pos (by omega), if_pos (by omega), Int.toNat_natCast]
  exact h1
end
end Go.Proofs.YtpeiafamkajedaaDoor.FAll
