/-
  The plain law of names: the document's Name answers what scan.Name does.
-/
import Derived.Test.YtkemfbocojoagaaDoorRt
import Derived.Test.YtkemfbocojoagaaDoorNm
namespace Go.Proofs.YtkemfbocojoagaaDoor.FAll
open Go.RowKit Go.Proofs.YtkemfbocojoagaaDoorW.PrintWords Go.Proofs.YtkemfbocojoagaaDoorW.PrintLast Go.Proofs.YtkemfbocojoagaaDoorW.PrintMore
set_option linter.unusedVariables false
set_option linter.unusedSimpArgs false

def refGood (c : Int) : Bool := (decide (97 ≤ c ∧ c ≤ 122) || decide (65 ≤ c ∧ c ≤ 90)) || decide (48 ≤ c ∧ c ≤ 57) || c == 95 || c == 45 || c == 46
theorem good_all : ∀ i : Fin 256, goodC (i.val : Int) = refGood (i.val : Int) := by decide +kernel
theorem bt_lt (s : ByteArray) (i : Int) : 0 ≤ bt s i ∧ bt s i < 256 := by
  unfold bt
  split
  · rename_i h
    have := (s[i.toNat]'h).toNat_lt
    omega
  · omega
theorem good_bt (s : ByteArray) (i : Int) : goodC (bt s i) = refGood (bt s i) := by
  obtain ⟨h0, h1⟩ := bt_lt s i
  have h := good_all ⟨(bt s i).toNat, by omega⟩
  have e : (((bt s i).toNat : Nat) : Int) = bt s i := Int.toNat_of_nonneg h0
  simpa [e] using h

theorem name_ev (s : ByteArray) (hs : s.size ≤ 9223372036854775807) : ∀ (d i : Nat), i + d = s.size →
    Ev (fun k => thicketref03_Name.l0 k s (i : Int)) (decide ((∀ j, j < s.size → i ≤ j → goodC (bt s (j : Int)) = true) ∧ 1 ≤ s.size ∧ s.size ≤ 64)) := by
  intro d
  induction d with
  | zero =>
    intro i hi
    refine Ev.step (f := fun k => _) (fun k => rfl) ?_
    refine evn (by omega) ?_
    have hv : ∀ j, j < s.size → i ≤ j → goodC (bt s (j : Int)) = true := fun j h1 h2 => by omega
    by_cases h1 : (s.size : Int) ≥ 1
    · refine evp h1 ?_
      exact eve (Ev.now _) (decide_eq_decide.2 ⟨fun h => ⟨hv, by omega, by omega⟩, fun h => by omega⟩)
    · refine evn h1 ?_
      exact eve (Ev.now _) (decide_eq_false (fun h => by omega)).symm
  | succ d ih =>
    intro i hi
    have hlt : i < s.size := by omega
    have e1 : wrap64 ((i : Int) + 1) = ((i + 1 : Nat) : Int) := by unfold wrap64; omega
    have next : goodC (bt s (i : Int)) = true → Ev (fun k => thicketref03_Name.l0 k s (wrap64 ((i : Int) + 1))) (decide ((∀ j, j < s.size → i ≤ j → goodC (bt s (j : Int)) = true) ∧ 1 ≤ s.size ∧ s.size ≤ 64)) := by
      intro hg
      rw [e1]
      refine eve (ih (i + 1) (by omega)) (decide_eq_decide.2 ⟨fun h => ⟨fun j h1 h2 => ?_, h.2⟩, fun h => ⟨fun j h1 h2 => h.1 j h1 (by omega), h.2⟩⟩)
      by_cases e : j = i
      · subst e; exact hg
      · exact h.1 j h1 (by omega)
    have hgb := good_bt s (i : Int)
    unfold refGood at hgb
    refine Ev.step (f := fun k => _) (fun k => rfl) ?_
    refine evp (by omega) ?_
    refine evp (by omega) ?_
    generalize hc : bt s (i : Int) = c at next hgb ⊢
    have hl : thicketref03_letter.f c = some (decide (97 ≤ c ∧ c ≤ 122) || decide (65 ≤ c ∧ c ≤ 90)) := by
      unfold thicketref03_letter.f
      (repeat' split) <;> (congr 1; apply Bool.eq_iff_iff.mpr; first | (simp; done) | (simp; omega))
    have hd : thicketref03_digit.f c = some (decide (48 ≤ c ∧ c ≤ 57)) := by
      unfold thicketref03_digit.f
      (repeat' split) <;> (congr 1; apply Bool.eq_iff_iff.mpr; first | (simp; done) | (simp; omega))
    rw [hl]
    refine Ev.congr (fun k => Option.bind_some _ _) ?_
    by_cases h1 : (decide (97 ≤ c ∧ c ≤ 122) || decide (65 ≤ c ∧ c ≤ 90)) = true
    · refine evp h1 (next (by rw [hgb, h1]; rfl))
    · refine evn h1 ?_
      rw [hd]
      refine Ev.congr (fun k => Option.bind_some _ _) ?_
      by_cases h2 : decide (48 ≤ c ∧ c ≤ 57) = true
      · refine evp h2 (next (by rw [hgb, h2]; simp))
      · refine evn h2 ?_
        by_cases h3 : c = 95
        · exact evp h3 (next (by rw [hgb, h3]; decide))
        · refine evn h3 ?_
          by_cases h4 : c = 45
          · exact evp h4 (next (by rw [hgb, h4]; decide))
          · refine evn h4 ?_
            by_cases h5 : c = 46
            · exact evp h5 (next (by rw [hgb, h5]; decide))
            · refine evn h5 ?_
              refine eve (Ev.now _) (decide_eq_false (fun h => ?_)).symm
              have hh := h.1 i hlt (Nat.le_refl _)
              rw [hc, hgb, Bool.eq_false_iff.mpr h1, Bool.eq_false_iff.mpr h2] at hh
              simp [h3, h4, h5] at hh
theorem refName_total (s : ByteArray) (hs : s.size ≤ 9223372036854775807) : ∃ k, thicketref03_Name.f k s = some (decide (NameB s)) := by
  have h := (name_ev s hs s.size 0 (by omega)).rounds
  obtain ⟨k, hk⟩ := h
  refine ⟨k, ?_⟩
  refine hk.trans (congrArg some (decide_eq_decide.2 ?_))
  unfold NameB
  exact ⟨fun h => ⟨h.2.1, h.2.2, fun j hj => h.1 j hj (Nat.zero_le _)⟩, fun h => ⟨fun j hj _ => h.2.2 j hj, h.1, h.2.1⟩⟩
end Go.Proofs.YtkemfbocojoagaaDoor.FAll
