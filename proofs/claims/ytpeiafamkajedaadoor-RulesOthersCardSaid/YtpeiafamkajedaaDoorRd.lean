/-
  rules.Check: what first makes of its three lists of rules.
-/
import Derived.Test.YtpeiafamkajedaaDoorRc
namespace Go.Proofs.YtpeiafamkajedaaDoor.FAll
open Go.RowKit Go.Shelf Go.Maps Go.WideMaps Go.Proofs.YtpeiafamkajedaaDoorW.PrintWords Go.Proofs.YtpeiafamkajedaaDoorW.PrintLast Go.Proofs.YtpeiafamkajedaaDoorW.PrintMore
set_option linter.unusedVariables false
set_option linter.unusedSimpArgs false
section
variable (ge gf gm b n : Nat) (nm : ByteArray) (AF : Option Addr) (nf cF : Nat) (outs : Int) (AB : Option Addr) (nb cB : Nat) (AT : Option Addr) (nt cT : Nat) (D : DataW Unit) (s : ByteArray) (c : Int)

/-- The rules. -/
def c1Rules : List RuleV := [⟨1, 24, #[.pointer (some ⟨ge, 0, none⟩)], decide (NameB nm)⟩, ⟨2, 26, #[.pointer (some ⟨ge, 0, none⟩)], decide (1 ≤ nf ∧ nf ≤ 65536)⟩]
/-- The first that doesn't hold. -/
def c1Head : Int × Bool := (if (NameB nm) then (if (1 ≤ nf ∧ nf ≤ 65536) then (0, false) else (2, true)) else (1, true))
theorem c1Rules_first : firstV (c1Rules ge nm nf) = c1Head nm nf := by
  simp only [c1Rules, c1Head, firstV, decide_eq_true_eq]
theorem c1_first (gr c0 : Nat) (W : World) (BE : Aside0 (W.heap[ge]? = some (.cells #[.string nm, .slice AF nf cF, .int .i64 outs, .slice AB nb cB, .slice AT nt cT] 26 (0, 0)))) (ht : Aside0 (Tab W)) (BR : Aside0 (W.heap[gr]? = some (.cells #[.int .i64 1, .func (.func 24) #[] #[.pointer (some ⟨ge, 0, none⟩)], .int .i64 2, .func (.func 26) #[] #[.pointer (some ⟨ge, 0, none⟩)]] 73 (0, 0)))) :
    Calls Tryd.prog 23 #[.slice (some ⟨gr, 0, none⟩) 2 c0] W fun e w' => e = .returned (.tuple #[.int .i64 (c1Head nm nf).1, .bool (c1Head nm nf).2]) ∧ Below W.heap.size W w' := by
  have h := rules_first.calls ⟨gr, 0, none⟩ c0 (c1Rules ge nm nf) (by simp [c1Rules]) W ⟨?_, ?_, ?_⟩
  · rw [c1Rules_first] at h
    exact h
  · intro i r h
    rcases i with _ | _ | i
    · obtain rfl := Option.some.inj h; exact ⟨(blk_cell BR.out 0).trans rfl, (blk_cell BR.out 1).trans rfl⟩
    · obtain rfl := Option.some.inj h; exact ⟨(blk_cell BR.out 2).trans rfl, (blk_cell BR.out 3).trans rfl⟩
    · simp [c1Rules] at h
  · intro r hr
    simp only [c1Rules, List.mem_cons, List.not_mem_nil, or_false] at hr
    rcases hr with rfl | rfl
    · exact enters_of Tryd.func24 (by kernel_rfl) rfl
    · exact enters_of Tryd.func26 (by kernel_rfl) rfl
  · intro r hr w' hb
    have BE' := Aside0.mk (blk_below BE.out hb)
    have ht' := Aside0.mk (tab_below ht.out hb)
    simp only [c1Rules, List.mem_cons, List.not_mem_nil, or_false] at hr
    rcases hr with rfl | rfl
    · exact checkRule1 (BE := BE') (ht := ht') (H := ⟨rfl⟩)
    · exact checkRule2 (BE := BE') (H := ⟨rfl⟩)

/-- The rules. -/
def c2Rules : List RuleV := [⟨3, 27, #[.pointer (some ⟨gf, 0, none⟩)], decide (NameB s)⟩, ⟨4, 28, #[.pointer (some ⟨gm, 0, none⟩), .pointer (some ⟨gf, 0, none⟩)], decide (c = 1)⟩]
/-- The first that doesn't hold. -/
def c2Head : Int × Bool := (if (NameB s) then (if (c = 1) then (0, false) else (4, true)) else (3, true))
theorem c2Rules_first : firstV (c2Rules gf gm s c) = c2Head s c := by
  simp only [c2Rules, c2Head, firstV, decide_eq_true_eq]
theorem c2_first (gr c0 : Nat) (W : World) (BF : Aside0 (W.heap[gf]? = some (.cells #[.string s] 9 (0, 0)))) (BM : Aside0 (W.heap[gm]? = some (.cells #[.map (some b)] 75 (0, 0)))) (hown : Aside0 (W.ownsMap Tryd.prog 9 (plainElem Tryd.prog 3) b n D)) (hs : Aside0 (s.size ≤ maxLen)) (hat : Aside0 (D.atKey (.string s.data.toList) (.lit (.int .i64 0)) = .lit (.int .i64 c))) (ht : Aside0 (Tab W)) (BR : Aside0 (W.heap[gr]? = some (.cells #[.int .i64 3, .func (.func 27) #[] #[.pointer (some ⟨gf, 0, none⟩)], .int .i64 4, .func (.func 28) #[] #[.pointer (some ⟨gm, 0, none⟩), .pointer (some ⟨gf, 0, none⟩)]] 73 (0, 0)))) :
    Calls Tryd.prog 23 #[.slice (some ⟨gr, 0, none⟩) 2 c0] W fun e w' => e = .returned (.tuple #[.int .i64 (c2Head s c).1, .bool (c2Head s c).2]) ∧ Below W.heap.size W w' := by
  have h := rules_first.calls ⟨gr, 0, none⟩ c0 (c2Rules gf gm s c) (by simp [c2Rules]) W ⟨?_, ?_, ?_⟩
  · rw [c2Rules_first] at h
    exact h
  · intro i r h
    rcases i with _ | _ | i
    · obtain rfl := Option.some.inj h; exact ⟨(blk_cell BR.out 0).trans rfl, (blk_cell BR.out 1).trans rfl⟩
    · obtain rfl := Option.some.inj h; exact ⟨(blk_cell BR.out 2).trans rfl, (blk_cell BR.out 3).trans rfl⟩
    · simp [c2Rules] at h
  · intro r hr
    simp only [c2Rules, List.mem_cons, List.not_mem_nil, or_false] at hr
    rcases hr with rfl | rfl
    · exact enters_of Tryd.func27 (by kernel_rfl) rfl
    · exact enters_of Tryd.func28 (by kernel_rfl) rfl
  · intro r hr w' hb
    have BF' := Aside0.mk (blk_below BF.out hb)
    have BM' := Aside0.mk (blk_below BM.out hb)
    have ho' := Aside0.mk (hown.out.kept (grown_of_below hb none) (by simp))
    have ht' := Aside0.mk (tab_below ht.out hb)
    simp only [c2Rules, List.mem_cons, List.not_mem_nil, or_false] at hr
    rcases hr with rfl | rfl
    · exact checkRule3 (BF := BF') (ht := ht') (H := ⟨rfl⟩)
    · exact checkRule4 (BM := BM') (BF := BF') (hown := ho') (hs := hs) (hat := hat) (H := ⟨rfl⟩)

/-- The rules. -/
def c3Rules : List RuleV := [⟨5, 29, #[.pointer (some ⟨ge, 0, none⟩)], decide (1 ≤ outs ∧ outs ≤ 64)⟩, ⟨6, 30, #[.pointer (some ⟨ge, 0, none⟩)], decide ((nb : Int) = outs)⟩, ⟨7, 31, #[.pointer (some ⟨ge, 0, none⟩)], decide (nt ≤ 65536)⟩]
/-- The first that doesn't hold. -/
def c3Head : Int × Bool := (if (1 ≤ outs ∧ outs ≤ 64) then (if ((nb : Int) = outs) then (if (nt ≤ 65536) then (0, false) else (7, true)) else (6, true)) else (5, true))
theorem c3Rules_first : firstV (c3Rules ge outs nb nt) = c3Head outs nb nt := by
  simp only [c3Rules, c3Head, firstV, decide_eq_true_eq]
theorem c3_first (gr c0 : Nat) (W : World) (BE : Aside0 (W.heap[ge]? = some (.cells #[.string nm, .slice AF nf cF, .int .i64 outs, .slice AB nb cB, .slice AT nt cT] 26 (0, 0)))) (BR : Aside0 (W.heap[gr]? = some (.cells #[.int .i64 5, .func (.func 29) #[] #[.pointer (some ⟨ge, 0, none⟩)], .int .i64 6, .func (.func 30) #[] #[.pointer (some ⟨ge, 0, none⟩)], .int .i64 7, .func (.func 31) #[] #[.pointer (some ⟨ge, 0, none⟩)]] 73 (0, 0)))) :
    Calls Tryd.prog 23 #[.slice (some ⟨gr, 0, none⟩) 3 c0] W fun e w' => e = .returned (.tuple #[.int .i64 (c3Head outs nb nt).1, .bool (c3Head outs nb nt).2]) ∧ Below W.heap.size W w' := by
  have h := rules_first.calls ⟨gr, 0, none⟩ c0 (c3Rules ge outs nb nt) (by simp [c3Rules]) W ⟨?_, ?_, ?_⟩
  · rw [c3Rules_first] at h
    exact h
  · intro i r h
    rcases i with _ | _ | _ | i
    · obtain rfl := Option.some.inj h; exact ⟨(blk_cell BR.out 0).trans rfl, (blk_cell BR.out 1).trans rfl⟩
    · obtain rfl := Option.some.inj h; exact ⟨(blk_cell BR.out 2).trans rfl, (blk_cell BR.out 3).trans rfl⟩
    · obtain rfl := Option.some.inj h; exact ⟨(blk_cell BR.out 4).trans rfl, (blk_cell BR.out 5).trans rfl⟩
    · simp [c3Rules] at h
  · intro r hr
    simp only [c3Rules, List.mem_cons, List.not_mem_nil, or_false] at hr
    rcases hr with rfl | rfl | rfl
    · exact enters_of Tryd.func29 (by kernel_rfl) rfl
    · exact enters_of Tryd.func30 (by kernel_rfl) rfl
    · exact enters_of Tryd.func31 (by kernel_rfl) rfl
  · intro r hr w' hb
    have BE' := Aside0.mk (blk_below BE.out hb)
    simp only [c3Rules, List.mem_cons, List.not_mem_nil, or_false] at hr
    rcases hr with rfl | rfl | rfl
    · exact checkRule5 (BE := BE') (H := ⟨rfl⟩)
    · exact checkRule6 (BE := BE') (H := ⟨rfl⟩)
    · exact checkRule7 (BE := BE') (H := ⟨rfl⟩)

end
end Go.Proofs.YtpeiafamkajedaaDoor.FAll
