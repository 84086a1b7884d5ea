/-
  slices.Sort at []uint64 over a row of the call's own (nil, too): the same numbers, rising.
-/
import Derived.Test.YtdhiljimmijghaaSq
namespace Go.Proofs.Ytdhiljimmijghaa.FAll
open Go.RowKit Go.Sort Go.Proofs.YtdhiljimmijghaaW.PrintWords Go.Proofs.YtdhiljimmijghaaW.PrintLast Go.Proofs.YtdhiljimmijghaaW.PrintMore
set_option linter.unusedVariables false
set_option linter.unusedSimpArgs false
set_option linter.unusedSectionVars false
set_option maxRecDepth 100000 in
theorem insNone.calls (w : World) : Calls Try.prog 39 #[.slice none 0 0, .int .i64 0, .int .i64 0] w fun e w' => e = .returned (.tuple #[]) ∧ w = w' := by
  go_enter Try.func39, Try.ntmps39
  go_wp2
  refine wp_loop_rounds 1 ?_
  rw [rounds_succ]
  go_wp2
  go_end0
  exact ⟨rfl, rfl⟩
set_option maxRecDepth 100000 in
theorem pdqNone.calls (lm : Int) (w : World) : Calls Try.prog 32 #[.slice none 0 0, .int .i64 0, .int .i64 0, .int .i64 lm] w fun e w' => e = .returned (.tuple #[]) ∧ w = w' := by
  go_enter Try.func32, Try.ntmps32
  go_wp2
  refine wp_loop_rounds 1 ?_
  rw [rounds_succ]
  go_wp2_with (go_at_call 39; refine (insNone.calls _).mono ?_; rintro e w1 ⟨rfl, rfl⟩)
  refine bodyPost_ret (results_none rfl _ _ _) rfl ?_
  exact ⟨rfl, rfl⟩
set_option maxRecDepth 100000 in
theorem sortNone.calls (w : World) : Calls Try.prog 25 #[.slice none 0 0] w fun e w' => e = .returned (.tuple #[]) ∧ w = w' := by
  go_enter Try.func25, Try.ntmps25
  go_wp2_with (first | (go_at_call 33; refine (Try.bits_Len _ _ (by decide) (by decide)).mono ?_; rintro e w1 ⟨rfl, rfl⟩) | (go_at_call 32; refine (pdqNone.calls _ _).mono ?_; rintro e w2 ⟨rfl, rfl⟩))
  go_end0
  exact ⟨rfl, rfl⟩
theorem rising_of {d : Array Int} (h : SortedIn ltInt 0 d.size d) : d.toList.Pairwise (· ≤ ·) := by
  rw [List.pairwise_iff_getElem]
  intro i j hi hj hij
  have h1 := h i j (Nat.zero_le _) hij (by simpa using hj)
  rw [arr_get d i (by simpa using hi), arr_get d j (by simpa using hj)] at h1
  have h2 := of_decide_eq_false h1
  simp only [Array.getElem_toList]
  omega
theorem perm_of {d d' : Array Int} (h : PermIn 0 d.size d d') : d'.toList.Perm d.toList := by
  obtain ⟨h1, _, h3⟩ := h
  rw [Array.extract_eq_self_of_le (by omega), Array.extract_eq_self_of_le (by omega)] at h3
  exact h3
set_option maxRecDepth 100000 in
/-- slices.Sort over a row of the call's own. -/
theorem SortR.calls (w : World) (base : Nat) (ok : Nat → Prop) (v : Value) (xs : List Int) (hR : Aside0 (Kd.R (Kd.int .u64) 23 w base ok v xs)) (hsz : Aside0 (xs.length ≤ 1152921504606846976)) :
    Calls Try.prog 25 #[v] w fun e w' => ∃ ys : List Int, e = .returned (.tuple #[]) ∧ ys.Perm xs ∧ ys.Pairwise (· ≤ ·) ∧ Kd.R (Kd.int .u64) 23 w' base ok v ys ∧ w.grownBy w' v.ownBlock := by
  obtain ⟨hlen, hown⟩ := Kd.own_of_R hR.out
  rcases hown with ⟨rfl, h0⟩ | ⟨g, cap, cur, rfl, hbase, hb, h1, h2, h3, h4⟩
  · have hx : xs = [] := List.eq_nil_of_length_eq_zero h0
    subst hx
    refine (sortNone.calls w).mono ?_
    rintro e w' ⟨rfl, rfl⟩
    exact ⟨[], rfl, List.Perm.refl _, List.Pairwise.nil, hR.out, World.grownBy.refl _ _⟩
  · have e1 : cur = (xs.map (Value.int .u64) ++ cur.toList.drop xs.length).toArray := by
      rw [← Array.toList_inj]
      show cur.toList = _
      have h5 : cur.toList.take xs.length = xs.map (Value.int .u64) := by simpa [encs] using h4
      rw [← h5, List.take_append_drop]
    have hS : Srt w g (cur.toList.drop xs.length) xs.toArray w := .start (by rw [hb]; congr 2)
    have hc := Sort64.calls w g cap (cur.toList.drop xs.length) xs.toArray ⟨hS⟩ ⟨by simpa using hsz.out⟩
    rw [List.size_toArray] at hc
    refine hc.mono ?_
    rintro e w' ⟨d', rfl, hp, hs, hz, hr⟩
    have hz' : d'.toList.length = xs.length := by simpa using hz
    have hp' : d'.toList.Perm xs := perm_of (d := xs.toArray) (by simpa using hp)
    refine ⟨d'.toList, rfl, hp', rising_of (by rw [hz]; exact hs), ?_, hr.grown⟩
    refine Kd.R_of_own ⟨by simp [encs], .inr ⟨g, cap, (d'.toList.map (Value.int .u64) ++ cur.toList.drop xs.length).toArray, by rw [hz'], hbase, hr.row, by omega, h2, ?_, ?_⟩⟩ (fun k hk => hR.out.1 k hk)
    · simp [hz]
      omega
    · simp [encs]
end Go.Proofs.Ytdhiljimmijghaa.FAll
