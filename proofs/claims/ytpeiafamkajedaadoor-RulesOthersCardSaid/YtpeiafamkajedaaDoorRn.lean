/-
  rules.node: its seven rules, each a function that captured the node; and what it answers.
-/
import Derived.Test.YtpeiafamkajedaaDoorFAllx
import Derived.Test.YtpeiafamkajedaaDoorRf
import Derived.Test.YtpeiafamkajedaaDoorFCtx
namespace Go.Proofs.YtpeiafamkajedaaDoor.FAll
open Go.RowKit Go.Proofs.YtpeiafamkajedaaDoorW.PrintWords Go.Proofs.YtpeiafamkajedaaDoorW.PrintLast Go.Proofs.YtpeiafamkajedaaDoorW.PrintMore
attribute [local go_sem] feq_walk fne_walk flt_walk fle_walk fgt_walk fge_walk fint_walk fstore_walk run_f64bits
set_option linter.unusedVariables false
set_option linter.unusedSimpArgs false
section
variable (g gi gn ge : Nat) (a0 a1 a2 : Int) (a3 : Nat) (A4 : Option Addr) (c4 : Nat) (l4 : List Int) (a5 a6 a7 : Int) (inner : Bool) (n : Int) (r : Bool) (w : World)

set_option maxHeartbeats 8000000 in
set_option maxRecDepth 100000 in
theorem rule1 (BX : Aside0 (w.heap[g]? = some (.cells #[.int .u8 a0, .int .i64 a1, .int .i64 a2, .float .f64 a3, .slice A4 l4.length c4, .int .u8 a5, .int .i64 a6, .int .i64 a7] 65 (0, 0)))) (H : Aside0 (decide (1 ≤ a0 ∧ a0 ≤ 3) = r)) :
    Calls Tryd.prog 56 #[.pointer (some ⟨g, 0, none⟩)] w fun e w' => e = .returned (.bool r) ∧ Below w.heap.size w w' := by
  have HB := Aside0.mk (Below.refl w.heap.size w)
  all_goals (have hz := blk8 (w := w) BX.out)
  all_goals go_enter Tryd.func56, Tryd.ntmps56
  all_goals go_wp2
  all_goals first
    | (go_ret; refine ⟨congrArg (fun z => Ending.returned (Value.bool z)) ?_, kB0 HB⟩; have h := H.out; clear BX; first | exact h | (rw [← h]; first | exact (decide_eq_true (by first | omega | exact Or.inl rfl | exact Or.inr (by omega))).symm | exact (decide_eq_false (by first | omega | (intro hh; rcases hh with hh | hh <;> first | (cases hh; done) | omega))).symm | (apply Bool.eq_iff_iff.mpr; simp; done) | (apply Bool.eq_iff_iff.mpr; simp; omega) | (apply Bool.eq_iff_iff.mpr; simp_all; done) | (apply Bool.eq_iff_iff.mpr; simp_all; omega)))
    | (exfalso; clear BX; first | (simp_all; done) | (simp_all; omega))

set_option maxHeartbeats 8000000 in
set_option maxRecDepth 100000 in
theorem rule4 (BX : Aside0 (w.heap[g]? = some (.cells #[.int .u8 a0, .int .i64 a1, .int .i64 a2, .float .f64 a3, .slice A4 l4.length c4, .int .u8 a5, .int .i64 a6, .int .i64 a7] 65 (0, 0)))) (H : Aside0 (feq a3 a3 = r)) :
    Calls Tryd.prog 60 #[.pointer (some ⟨g, 0, none⟩)] w fun e w' => e = .returned (.bool r) ∧ Below w.heap.size w w' := by
  have HB := Aside0.mk (Below.refl w.heap.size w)
  all_goals (have hz := blk8 (w := w) BX.out)
  all_goals go_enter Tryd.func60, Tryd.ntmps60
  all_goals go_wp2
  all_goals first
    | (go_ret; refine ⟨congrArg (fun z => Ending.returned (Value.bool z)) ?_, kB0 HB⟩; have h := H.out; clear BX; first | exact h | (rw [← h]; first | exact (decide_eq_true (by first | omega | exact Or.inl rfl | exact Or.inr (by omega))).symm | exact (decide_eq_false (by first | omega | (intro hh; rcases hh with hh | hh <;> first | (cases hh; done) | omega))).symm | (apply Bool.eq_iff_iff.mpr; simp; done) | (apply Bool.eq_iff_iff.mpr; simp; omega) | (apply Bool.eq_iff_iff.mpr; simp_all; done) | (apply Bool.eq_iff_iff.mpr; simp_all; omega)))
    | (exfalso; clear BX; first | (simp_all; done) | (simp_all; omega))

set_option maxHeartbeats 8000000 in
set_option maxRecDepth 100000 in
theorem rule6 (BX : Aside0 (w.heap[g]? = some (.cells #[.int .u8 a0, .int .i64 a1, .int .i64 a2, .float .f64 a3, .slice A4 l4.length c4, .int .u8 a5, .int .i64 a6, .int .i64 a7] 65 (0, 0)))) (BI : Aside0 (w.heap[gi]? = some (.cells #[.bool inner] 4 (0, 0)))) (H : Aside0 (decide (inner = false ∨ (a5 = 1 ∨ a5 = 2)) = r)) :
    Calls Tryd.prog 63 #[.pointer (some ⟨gi, 0, none⟩), .pointer (some ⟨g, 0, none⟩)] w fun e w' => e = .returned (.bool r) ∧ Below w.heap.size w w' := by
  have HB := Aside0.mk (Below.refl w.heap.size w)
  cases inner
  all_goals (have hz := blk8 (w := w) BX.out; have hi := blk1 (w := w) BI.out)
  all_goals go_enter Tryd.func63, Tryd.ntmps63
  all_goals go_wp2
  all_goals first
    | (go_ret; refine ⟨congrArg (fun z => Ending.returned (Value.bool z)) ?_, kB0 HB⟩; have h := H.out; clear BX; first | exact h | (rw [← h]; first | exact (decide_eq_true (by first | omega | exact Or.inl rfl | exact Or.inr (by omega))).symm | exact (decide_eq_false (by first | omega | (intro hh; rcases hh with hh | hh <;> first | (cases hh; done) | omega))).symm | (apply Bool.eq_iff_iff.mpr; simp; done) | (apply Bool.eq_iff_iff.mpr; simp; omega) | (apply Bool.eq_iff_iff.mpr; simp_all; done) | (apply Bool.eq_iff_iff.mpr; simp_all; omega)))
    | (exfalso; clear BX; first | (simp_all; done) | (simp_all; omega))

set_option maxHeartbeats 8000000 in
set_option maxRecDepth 100000 in
theorem rule7 (BX : Aside0 (w.heap[g]? = some (.cells #[.int .u8 a0, .int .i64 a1, .int .i64 a2, .float .f64 a3, .slice A4 l4.length c4, .int .u8 a5, .int .i64 a6, .int .i64 a7] 65 (0, 0)))) (BI : Aside0 (w.heap[gi]? = some (.cells #[.bool inner] 4 (0, 0)))) (BN : Aside0 (w.heap[gn]? = some (.cells #[.int .i64 n] 3 (0, 0)))) (H : Aside0 (decide (inner = false ∨ (1 ≤ a6 ∧ a6 < n ∧ 1 ≤ a7 ∧ a7 < n)) = r)) :
    Calls Tryd.prog 64 #[.pointer (some ⟨gi, 0, none⟩), .pointer (some ⟨g, 0, none⟩), .pointer (some ⟨gn, 0, none⟩)] w fun e w' => e = .returned (.bool r) ∧ Below w.heap.size w w' := by
  have HB := Aside0.mk (Below.refl w.heap.size w)
  cases inner
  all_goals (have hz := blk8 (w := w) BX.out; have hi := blk1 (w := w) BI.out; have hn := blk1 (w := w) BN.out)
  all_goals go_enter Tryd.func64, Tryd.ntmps64
  all_goals go_wp2
  all_goals first
    | (go_ret; refine ⟨congrArg (fun z => Ending.returned (Value.bool z)) ?_, kB0 HB⟩; have h := H.out; clear BX; first | exact h | (rw [← h]; first | exact (decide_eq_true (by first | omega | exact Or.inl rfl | exact Or.inr (by omega))).symm | exact (decide_eq_false (by first | omega | (intro hh; rcases hh with hh | hh <;> first | (cases hh; done) | omega))).symm | (apply Bool.eq_iff_iff.mpr; simp; done) | (apply Bool.eq_iff_iff.mpr; simp; omega) | (apply Bool.eq_iff_iff.mpr; simp_all; done) | (apply Bool.eq_iff_iff.mpr; simp_all; omega)))
    | (exfalso; clear BX; first | (simp_all; done) | (simp_all; omega))

set_option maxHeartbeats 8000000 in
set_option maxRecDepth 100000 in
theorem rule3 (nm : ByteArray) (AF : Option Addr) (nf cF : Nat) (outs : Int) (AB : Option Addr) (nb cB : Nat) (AT : Option Addr) (nt cT : Nat) (BX : Aside0 (w.heap[g]? = some (.cells #[.int .u8 a0, .int .i64 a1, .int .i64 a2, .float .f64 a3, .slice A4 l4.length c4, .int .u8 a5, .int .i64 a6, .int .i64 a7] 65 (0, 0)))) (BI : Aside0 (w.heap[gi]? = some (.cells #[.bool inner] 4 (0, 0)))) (BE : Aside0 (w.heap[ge]? = some (.cells #[.string nm, .slice AF nf cF, .int .i64 outs, .slice AB nb cB, .slice AT nt cT] 26 (0, 0)))) (H : Aside0 (decide (inner = false ∨ (0 ≤ a2 ∧ a2 < (nf : Int))) = r)) :
    Calls Tryd.prog 59 #[.pointer (some ⟨gi, 0, none⟩), .pointer (some ⟨g, 0, none⟩), .pointer (some ⟨ge, 0, none⟩)] w fun e w' => e = .returned (.bool r) ∧ Below w.heap.size w w' := by
  have HB := Aside0.mk (Below.refl w.heap.size w)
  cases inner
  all_goals (have hz := blk8 (w := w) BX.out; have hi := blk1 (w := w) BI.out; have he := blk5 (w := w) BE.out)
  all_goals go_enter Tryd.func59, Tryd.ntmps59
  all_goals go_wp2
  all_goals first
    | (go_ret; refine ⟨congrArg (fun z => Ending.returned (Value.bool z)) ?_, kB0 HB⟩; have h := H.out; clear BX; first | exact h | (rw [← h]; first | exact (decide_eq_true (by first | omega | exact Or.inl rfl | exact Or.inr (by omega))).symm | exact (decide_eq_false (by first | omega | (intro hh; rcases hh with hh | hh <;> first | (cases hh; done) | omega))).symm | (apply Bool.eq_iff_iff.mpr; simp; done) | (apply Bool.eq_iff_iff.mpr; simp; omega) | (apply Bool.eq_iff_iff.mpr; simp_all; done) | (apply Bool.eq_iff_iff.mpr; simp_all; omega)))
    | (exfalso; clear BX; first | (simp_all; done) | (simp_all; omega))

/-- What spare answers. -/
def spareB (a0 a1 a2 : Int) (a3 : Nat) (l4 : List Int) (a5 a6 a7 : Int) : Bool := (if a0 = 1 then decide (f64bits a3 = 0 ∧ a2 = 0 ∧ l4 = [] ∧ a5 = 0 ∧ a6 = 0 ∧ a7 = 0) else if a0 = 2 then decide (a1 = 0 ∧ l4 = []) else decide (a1 = 0 ∧ f64bits a3 = 0))
set_option maxHeartbeats 8000000 in
set_option maxRecDepth 100000 in
theorem rules_spare.calls1 (c1 : (a0 == 1) = true) (c2 : (a0 == 2) = false) (H : Aside0 (decide (f64bits a3 = 0 ∧ a2 = 0 ∧ l4 = [] ∧ a5 = 0 ∧ a6 = 0 ∧ a7 = 0) = r)) :
    Calls Tryd.prog 58 #[.agg #[.int .u8 a0, .int .i64 a1, .int .i64 a2, .float .f64 a3, .slice A4 l4.length c4, .int .u8 a5, .int .i64 a6, .int .i64 a7]] w fun e w' => e = .returned (.bool r) ∧ Below w.heap.size w w' := by
  have HB := Aside0.mk (Below.refl w.heap.size w)
  go_enter Tryd.func58, Tryd.ntmps58
  go_wp2_with (first | ((with_reducible refine gate_dst (N := 1) rfl ?_); refine box_event ?hg (N := 1) ?hd (cs := #[.int .u8 a0, .int .i64 a1, .int .i64 a2, .float .f64 a3, .slice A4 l4.length c4, .int .u8 a5, .int .i64 a6, .int .i64 a7]) (t := 65) ?hr ?_; (case hd => rfl); (case hg => rfl); (case hr => first | (go_simp; done) | (go_simp; rfl)); intro gb hg w1 hbox hb; have n0_ := Aside0.mk (below_step (kB0 HB) hb); have BK := Aside0.mk hbox; clear HB; have HB := n0_; clear n0_ hb hbox hg; have hz := blk8 (w := w1) BK.out))
  all_goals first
    | (go_ret; refine ⟨congrArg (fun z => Ending.returned (Value.bool z)) ?_, kB0 HB⟩; have h := H.out; clear BK; first | exact h | (simp_all; done) | (rw [← h]; clear h H; first | exact (decide_eq_true (by omega)).symm | exact (decide_eq_false (by omega)).symm | (apply Bool.eq_iff_iff.mpr; simp_all; done) | (apply Bool.eq_iff_iff.mpr; simp_all; omega)))
    | (exfalso; clear BK; first | (simp_all; done) | (simp_all; omega))

set_option maxHeartbeats 8000000 in
set_option maxRecDepth 100000 in
theorem rules_spare.calls2 (c1 : (a0 == 1) = false) (c2 : (a0 == 2) = true) (H : Aside0 (decide (a1 = 0 ∧ l4 = []) = r)) :
    Calls Tryd.prog 58 #[.agg #[.int .u8 a0, .int .i64 a1, .int .i64 a2, .float .f64 a3, .slice A4 l4.length c4, .int .u8 a5, .int .i64 a6, .int .i64 a7]] w fun e w' => e = .returned (.bool r) ∧ Below w.heap.size w w' := by
  have HB := Aside0.mk (Below.refl w.heap.size w)
  go_enter Tryd.func58, Tryd.ntmps58
  go_wp2_with (first | ((with_reducible refine gate_dst (N := 1) rfl ?_); refine box_event ?hg (N := 1) ?hd (cs := #[.int .u8 a0, .int .i64 a1, .int .i64 a2, .float .f64 a3, .slice A4 l4.length c4, .int .u8 a5, .int .i64 a6, .int .i64 a7]) (t := 65) ?hr ?_; (case hd => rfl); (case hg => rfl); (case hr => first | (go_simp; done) | (go_simp; rfl)); intro gb hg w1 hbox hb; have n0_ := Aside0.mk (below_step (kB0 HB) hb); have BK := Aside0.mk hbox; clear HB; have HB := n0_; clear n0_ hb hbox hg; have hz := blk8 (w := w1) BK.out))
  all_goals first
    | (go_ret; refine ⟨congrArg (fun z => Ending.returned (Value.bool z)) ?_, kB0 HB⟩; have h := H.out; clear BK; first | exact h | (simp_all; done) | (rw [← h]; clear h H; first | exact (decide_eq_true (by omega)).symm | exact (decide_eq_false (by omega)).symm | (apply Bool.eq_iff_iff.mpr; simp_all; done) | (apply Bool.eq_iff_iff.mpr; simp_all; omega)))
    | (exfalso; clear BK; first | (simp_all; done) | (simp_all; omega))

set_option maxHeartbeats 8000000 in
set_option maxRecDepth 100000 in
theorem rules_spare.calls3 (c1 : (a0 == 1) = false) (c2 : (a0 == 2) = false) (H : Aside0 (decide (a1 = 0 ∧ f64bits a3 = 0) = r)) :
    Calls Tryd.prog 58 #[.agg #[.int .u8 a0, .int .i64 a1, .int .i64 a2, .float .f64 a3, .slice A4 l4.length c4, .int .u8 a5, .int .i64 a6, .int .i64 a7]] w fun e w' => e = .returned (.bool r) ∧ Below w.heap.size w w' := by
  have HB := Aside0.mk (Below.refl w.heap.size w)
  go_enter Tryd.func58, Tryd.ntmps58
  go_wp2_with (first | ((with_reducible refine gate_dst (N := 1) rfl ?_); refine box_event ?hg (N := 1) ?hd (cs := #[.int .u8 a0, .int .i64 a1, .int .i64 a2, .float .f64 a3, .slice A4 l4.length c4, .int .u8 a5, .int .i64 a6, .int .i64 a7]) (t := 65) ?hr ?_; (case hd => rfl); (case hg => rfl); (case hr => first | (go_simp; done) | (go_simp; rfl)); intro gb hg w1 hbox hb; have n0_ := Aside0.mk (below_step (kB0 HB) hb); have BK := Aside0.mk hbox; clear HB; have HB := n0_; clear n0_ hb hbox hg; have hz := blk8 (w := w1) BK.out))
  all_goals first
    | (go_ret; refine ⟨congrArg (fun z => Ending.returned (Value.bool z)) ?_, kB0 HB⟩; have h := H.out; clear BK; first | exact h | (simp_all; done) | (rw [← h]; clear h H; first | exact (decide_eq_true (by omega)).symm | exact (decide_eq_false (by omega)).symm | (apply Bool.eq_iff_iff.mpr; simp_all; done) | (apply Bool.eq_iff_iff.mpr; simp_all; omega)))
    | (exfalso; clear BK; first | (simp_all; done) | (simp_all; omega))

theorem rules_spare.calls : Calls Tryd.prog 58 #[.agg #[.int .u8 a0, .int .i64 a1, .int .i64 a2, .float .f64 a3, .slice A4 l4.length c4, .int .u8 a5, .int .i64 a6, .int .i64 a7]] w fun e w' => e = .returned (.bool (spareB a0 a1 a2 a3 l4 a5 a6 a7)) ∧ Below w.heap.size w w' := by
  unfold spareB
  by_cases e1 : a0 = 1
  · rw [if_pos e1]
    exact rules_spare.calls1 _ _ _ _ _ _ _ _ _ _ _ _ (by simp [e1]) (by simp [e1]) ⟨rfl⟩
  · rw [if_neg e1]
    by_cases e2 : a0 = 2
    · rw [if_pos e2]
      exact rules_spare.calls2 _ _ _ _ _ _ _ _ _ _ _ _ (by simp [e2]) (by simp [e2]) ⟨rfl⟩
    · rw [if_neg e2]
      exact rules_spare.calls3 _ _ _ _ _ _ _ _ _ _ _ _ (by simp [e1]) (by simp [e2]) ⟨rfl⟩

set_option maxHeartbeats 8000000 in
set_option maxRecDepth 100000 in
theorem rule2 (BX : Aside0 (w.heap[g]? = some (.cells #[.int .u8 a0, .int .i64 a1, .int .i64 a2, .float .f64 a3, .slice A4 l4.length c4, .int .u8 a5, .int .i64 a6, .int .i64 a7] 65 (0, 0)))) : Calls Tryd.prog 57 #[.pointer (some ⟨g, 0, none⟩)] w fun e w' => e = .returned (.bool (spareB a0 a1 a2 a3 l4 a5 a6 a7)) ∧ Below w.heap.size w w' := by
  have HB := Aside0.mk (Below.refl w.heap.size w)
  have hz := blk8 (w := w) BX.out
  go_enter Tryd.func57, Tryd.ntmps57
  go_wp2_with (first | (go_at_call 58; refine (rules_spare.calls a0 a1 a2 a3 A4 c4 l4 a5 a6 a7 _).mono ?_; rintro e w1 ⟨rfl, hb⟩; have n1_ := Aside0.mk (below_step (kB0 HB) hb); clear HB; have HB := n1_; clear n1_ hb))
  go_ret
  exact ⟨rfl, kB0 HB⟩
set_option maxHeartbeats 8000000 in
set_option maxRecDepth 100000 in
theorem rule5x (BX : Aside0 (w.heap[g]? = some (.cells #[.int .u8 a0, .int .i64 a1, .int .i64 a2, .float .f64 a3, .slice A4 l4.length c4, .int .u8 a5, .int .i64 a6, .int .i64 a7] 65 (0, 0)))) (c3 : (a0 != 3) = true) : Calls Tryd.prog 61 #[.pointer (some ⟨g, 0, none⟩)] w fun e w' => e = .returned (.bool true) ∧ Below w.heap.size w w' := by
  have HB := Aside0.mk (Below.refl w.heap.size w)
  have hz := blk8 (w := w) BX.out
  go_enter Tryd.func61, Tryd.ntmps61
  go_wp2
  go_ret
  exact ⟨rfl, kB0 HB⟩
set_option maxHeartbeats 8000000 in
set_option maxRecDepth 100000 in
theorem rule5c (BX : Aside0 (w.heap[g]? = some (.cells #[.int .u8 a0, .int .i64 a1, .int .i64 a2, .float .f64 a3, .slice A4 l4.length c4, .int .u8 a5, .int .i64 a6, .int .i64 a7] 65 (0, 0)))) (c3 : (a0 != 3) = false) (k : Nat) (hr4 : Aside0 (Kd.C (Kd.int .i64) w A4 l4.length l4)) (hc4 : Aside0 (l4.length ≤ c4)) (b : Bool) (hk : Aside0 (FCt.rules_cats.f k l4 = some b)) :
    Calls Tryd.prog 61 #[.pointer (some ⟨g, 0, none⟩)] w fun e w' => e = .returned (.bool b) ∧ Below w.heap.size w w' := by
  have HB := Aside0.mk (Below.refl w.heap.size w)
  have hz := blk8 (w := w) BX.out
  go_enter Tryd.func61, Tryd.ntmps61
  go_wp2_with (first | (go_at_call 62; refine (FCt.rules_cats.calls k _ _ l4 b _ (Kd.C_below hr4.out (kB0 HB)) hc4.out hk.out).mono ?_; rintro e w2 ⟨rfl, ⟨nd, rfl⟩⟩))
  go_ret
  exact ⟨rfl, kB0 HB⟩

end
end Go.Proofs.YtpeiafamkajedaaDoor.FAll
