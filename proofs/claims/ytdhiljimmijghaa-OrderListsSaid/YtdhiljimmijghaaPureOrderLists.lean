/-
  The plain law of OrderLists: what the program's Sorted, Distinct and Below answer is what the document's answer, for all lists and numbers.
-/
import Derived.Test.YtdhiljimmijghaaOs
namespace Go.Proofs.Ytdhiljimmijghaa.Pure
open Go.RowKit Go.Proofs.Ytdhiljimmijghaa Go.Proofs.Ytdhiljimmijghaa.FAll Go.Proofs.YtdhiljimmijghaaW.PrintWords Go.Proofs.YtdhiljimmijghaaW.PrintLast Go.Proofs.YtdhiljimmijghaaW.PrintMore
set_option linter.unusedVariables false
set_option linter.unusedSimpArgs false
theorem bz_of (l : List Int) (h : ∀ x ∈ l, (Lit.int .u64 x).wf = true) : ∃ m : List Nat, l = bz m ∧ ∀ x ∈ m, x < 2 ^ 64 := by
  have hw : ∀ x ∈ l, 0 ≤ x ∧ x < 18446744073709551616 := fun x hx => by
    have := h x hx
    have h2 : IntKind.u64.min ≤ x ∧ x ≤ IntKind.u64.max := by simpa [Lit.wf] using this
    have e1 : IntKind.u64.min = 0 := rfl
    have e2 : IntKind.u64.max = 18446744073709551615 := rfl
    omega
  refine ⟨l.map Int.toNat, ?_, ?_⟩
  · unfold bz
    rw [List.map_map]
    conv => lhs; rw [← List.map_id l]
    refine List.map_congr_left fun x hx => ?_
    have := hw x hx
    simp only [Function.comp, id, Int.ofNat_eq_natCast]
    omega
  · intro x hx
    obtain ⟨y, hy, rfl⟩ := List.mem_map.1 hx
    have := hw y hy
    omega
theorem OrderLists : thicketlaw06_OrderLists.Pure := by
  intro l0 a1 h1 h2 h3 h4
  obtain ⟨m, rfl, hm⟩ := bz_of l0 h3
  obtain ⟨vs, hv, hv64⟩ := bz_of [a1] (fun x hx => by rw [List.mem_singleton.1 hx]; exact h4)
  obtain ⟨v, rfl⟩ : ∃ v, vs = [v] := by
    match vs, hv with
    | [v], _ => exact ⟨v, rfl⟩
  obtain rfl : a1 = (v : Int) := by simpa [bz] using hv
  have hv' : v < 2 ^ 64 := hv64 v (List.mem_singleton.2 rfl)
  rw [List.length_map] at h2
  have hlen : m.length ≤ 17592186043904 := by omega
  have hs := sortL_len m
  have hd := distinctL_len m
  refine Ev.rounds ?_
  unfold thicketlaw06_OrderLists.f
  refine Ev.bind (list_ev m (by omega)) (Ev.bindc rfl (Ev.pos (by simp; omega) (Ev.bindc rfl (Ev.pos (by omega) (Ev.pos (by simp; omega) (Ev.bindc (v := m) ?_ ?_))))))
  · simp
  refine Ev.bindc (v := sortL ltK m) (by unfold order_Sorted.f; rw [if_pos (by omega)]; rfl) (Ev.bind (rsorted_ev m (by omega) hm) (Ev.bind (are_same (sortL ltK m) (by omega) (mem_wf (sortL_st swoK m) hm)) (Ev.pos rfl ?_)))
  refine Ev.bindc (v := distinctL m) (by unfold order_Distinct.f; rw [if_pos ⟨by omega, hm⟩]; rfl) (Ev.bind (rdistinct_ev m (by omega) hm) (Ev.bind (are_same (distinctL m) (by omega) (distinctL_wf m hm)) (Ev.pos rfl ?_)))
  refine Ev.bind (a := ((cntK (fkey v) m : Nat) : Int)) (by have := below_ev m (by omega) hm hv'; exact this) (Ev.bind (rbelow_ev m (by omega) hm hv') (Ev.pos rfl (Ev.bind (are_same m (by omega) hm) (Ev.pos rfl ?_))))
  have e1 : rdOf (0 : Nat) (m ++ [4620130267728707584, 4620974692658839552]) (((bz m).length : Nat) : Int) = 4620130267728707584 := by
    rw [List.length_map, rdOf_nat _ _ (by simp)]; simp
  have e2 : wrap64 ((((bz m).length : Nat) : Int) + 1) = ((m.length + 1 : Nat) : Int) := by rw [List.length_map, w64 (by omega) (by omega)]; omega
  have e3 : rdOf (0 : Nat) (m ++ [4620130267728707584, 4620974692658839552]) ((m.length + 1 : Nat) : Int) = 4620974692658839552 := by
    rw [rdOf_nat _ _ (by simp)]; simp
  refine Ev.pos (by simp; omega) ?_
  rw [e1, e2, e3]
  exact Ev.pos (by decide +kernel) (Ev.pos (by omega) (Ev.pos (by simp) (Ev.some_ (by decide +kernel))))
end Go.Proofs.Ytdhiljimmijghaa.Pure
