/-
  slices.SortStableFunc at []float64 over a row of the call's own (nil, too): it rises, and of each greatness the same ones stand in the same order; order.Sorted.
-/
import Derived.Test.YtdhiljimmijghaaSt
import Derived.Test.YtdhiljimmijghaaFw
namespace Go.Proofs.Ytdhiljimmijghaa.FAll
open Go.RowKit Go.Sort Go.Proofs.YtdhiljimmijghaaW.PrintWords Go.Proofs.YtdhiljimmijghaaW.PrintLast Go.Proofs.YtdhiljimmijghaaW.PrintMore
set_option linter.unusedVariables false
set_option linter.unusedSimpArgs false
set_option linter.unusedSectionVars false
section
variable {lt : Nat → Nat → Bool} {F : FuncId} {lb : Array Value}
set_option maxRecDepth 100000 in
theorem insNoneF.calls (cmpv : Value) (w : World) : Calls Try.prog 37 #[.slice none 0 0, .int .i64 0, .int .i64 0, cmpv] w fun e w' => e = .returned (.tuple #[]) ∧ w = w' := by
  go_enter Try.func37, Try.ntmps37
  go_wp2
  refine wp_loop_rounds 1 ?_
  rw [rounds_succ]
  go_wp2
  go_end0
  exact ⟨rfl, rfl⟩
set_option maxRecDepth 100000 in
theorem stableNoneF.calls (cmpv : Value) (w : World) : Calls Try.prog 31 #[.slice none 0 0, .int .i64 0, cmpv] w fun e w' => e = .returned (.tuple #[]) ∧ w = w' := by
  go_enter Try.func31, Try.ntmps31
  go_wp2
  refine wp_loop_rounds 1 ?_
  rw [rounds_succ]
  go_wp2_with (go_at_call 37; refine (insNoneF.calls cmpv _).mono ?_; rintro e w1 ⟨rfl, rfl⟩)
  refine wp_loop_rounds 1 ?_
  rw [rounds_succ]
  go_wp2
  go_end0
  exact ⟨rfl, rfl⟩
set_option maxRecDepth 100000 in
theorem sortStableNone.calls (cmpv : Value) (w : World) : Calls Try.prog 22 #[.slice none 0 0, cmpv] w fun e w' => e = .returned (.tuple #[]) ∧ w = w' := by
  go_enter Try.func22, Try.ntmps22
  go_wp2_with (first | (go_at_call 31; refine (stableNoneF.calls cmpv _).mono ?_; rintro e w1 ⟨rfl, rfl⟩))
  go_end0
  exact ⟨rfl, rfl⟩
/-- It rises. -/
abbrev Rises (lt : Nat → Nat → Bool) (ys : List Nat) : Prop := ys.Pairwise fun a b => lt b a = false
set_option maxRecDepth 100000 in
theorem SortStableR.calls (CF : CmpF lt F lb) (w : World) (base : Nat) (ok : Nat → Prop) (v : Value) (xs : List Nat) (hR : Aside0 (Kd.R Kd.f64 26 w base ok v xs)) (hsz : Aside0 (xs.length ≤ 1152921504606846976)) :
    Calls Try.prog 22 #[v, .func (.func F) #[] lb] w fun e w' => ∃ ys : List Nat, e = .returned (.tuple #[]) ∧ StEq lt xs ys ∧ Rises lt ys ∧ Kd.R Kd.f64 26 w' base ok v ys ∧ w.grownBy w' v.ownBlock := by
  obtain ⟨hlen, hown⟩ := Kd.own_of_R hR.out
  rcases hown with ⟨rfl, h0⟩ | ⟨g, cap, cur, rfl, hbase, hb, h1, h2, h3, h4⟩
  · have hx : xs = [] := List.eq_nil_of_length_eq_zero h0
    subst hx
    refine (sortStableNone.calls _ w).mono ?_
    rintro e w' ⟨rfl, rfl⟩
    exact ⟨[], rfl, StEq.refl _, List.Pairwise.nil, hR.out, World.grownBy.refl _ _⟩
  · have e1 : cur = (xs.map (Value.float .f64) ++ cur.toList.drop xs.length).toArray := by
      rw [← Array.toList_inj]
      show cur.toList = _
      have h5 : cur.toList.take xs.length = xs.map (Value.float .f64) := by simpa [encs] using h4
      rw [← h5, List.take_append_drop]
    have hS : Srf w g (cur.toList.drop xs.length) xs.toArray w := .start (by rw [hb]; congr 2)
    have hc := sortStableF.calls CF w g cap (cur.toList.drop xs.length) xs.toArray ⟨hS⟩ ⟨by simpa using hsz.out⟩
    rw [List.size_toArray] at hc
    refine hc.mono ?_
    rintro e w' ⟨rfl, d', ht, hs, hr⟩
    have hz : d'.size = xs.length := by simpa using ht.size
    have hz' : d'.toList.length = xs.length := by simpa using hz
    refine ⟨d'.toList, rfl, by simpa using ht.st, sorted_list (by rw [hz]; exact hs), ?_, hr.grown⟩
    refine Kd.R_of_own ⟨by simp [encs], .inr ⟨g, cap, (d'.toList.map (Value.float .f64) ++ cur.toList.drop xs.length).toArray, by rw [hz'], hbase, hr.row, by omega, h2, ?_, ?_⟩⟩ (fun k hk => hR.out.1 k hk)
    · simp [hz]
      omega
    · simp [encs]
end
theorem infoSF : (Try.prog.info? 26).map (fun i => (i.zero, i.size, i.bytes)) = some (some (.float .f64 0), 1, 8) := by kernel_rfl
set_option maxHeartbeats 8000000 in
set_option maxRecDepth 100000 in
theorem SortedF.calls {lt : Nat → Nat → Bool} (CF : CmpF lt 17 #[]) (w : World) (A : Option Addr) (c : Nat) (l : List Nat) (hl : Aside0 (Kd.C Kd.f64 w A l.length l)) (hsz : Aside0 (l.length ≤ 17592186044416)) :
    Calls Try.prog 9 #[.slice A l.length c] w fun e w' => ∃ (v0 : Value) (ys : List Nat), e = .returned v0 ∧ StEq lt l ys ∧ Rises lt ys ∧ Kd.R Kd.f64 26 w' w.heap.size (fun _ => True) v0 ys ∧ Below w.heap.size w w' := by
  have HB := Aside0.mk (Below.refl w.heap.size w)
  go_enter Try.func9, Try.ntmps9
  go_wp2_with (first | ((with_reducible refine gate_builtin (b := .append) (xs := #[.const (.slice none 0 0), .tmp 4]) rfl ?_); at_builtin; refine Kd.R_append_rows Kd.f64 (w0 := w) w.heap.size rfl (.const (.slice none 0 0)) (.tmp 4) 24 26 (.float .f64 0) 8 rfl Try.underlying24 infoSF rfl (by decide) (by omega) (.slice none 0 0) ([] : List Nat) l _ _ _ (fun _ => True) (fun _ => False) rfl rfl (Kd.R_nil _ _ _ _ _) hl.out (fun _ _ h => h) (fun _ h => h.elim) (fun _ _ => trivial) HB.out (Nat.le_refl _) (by have := hsz.out; simp only [List.length_nil]; omega) ?_; intro v5 w5 R5 hb5 _ _; rw [List.nil_append] at R5; have W5 := Aside0.mk R5; have B5 := Aside0.mk hb5; clear R5 hb5) | (go_at_call 22; refine (SortStableR.calls CF _ w.heap.size _ _ l W5 ⟨by have := hsz.out; omega⟩).mono ?_; rintro e w6 ⟨ys, rfl, h1, h2, h3, h4⟩; have S1 := Aside0.mk h1; have S2 := Aside0.mk h2; have n0_ := Aside0.mk (Below.grown B5.out h4 (below_size B5.out) (fun k hk => Kd.R_base W5.out k hk)); clear B5 W5; have B5 := n0_; have W5 := Aside0.mk h3; clear n0_ h1 h2 h3 h4))
  go_ret
  exact ⟨_, ys, rfl, S1.out, S2.out, W5.out, B5.out⟩
end Go.Proofs.Ytdhiljimmijghaa.FAll
