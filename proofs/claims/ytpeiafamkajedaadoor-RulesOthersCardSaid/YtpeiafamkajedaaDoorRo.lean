/-
  rules.node: what it answers.
-/
import Derived.Test.YtpeiafamkajedaaDoorRn
import Derived.Shelf.Abstract
namespace Go.Proofs.YtpeiafamkajedaaDoor.FAll
open Go.RowKit Go.Shelf Go.Proofs.YtpeiafamkajedaaDoorW.PrintWords Go.Proofs.YtpeiafamkajedaaDoorW.PrintLast Go.Proofs.YtpeiafamkajedaaDoorW.PrintMore
set_option linter.unusedVariables false
set_option linter.unusedSimpArgs false
section
variable (a0 a1 a2 : Int) (a3 : Nat) (A4 : Option Addr) (c4 : Nat) (l4 : List Int) (a5 a6 a7 : Int) (nm : ByteArray) (AF : Option Addr) (nf cF : Nat) (outs : Int) (AB : Option Addr) (nb cB : Nat) (AT : Option Addr) (nt cT : Nat) (inner : Bool) (n : Int) (b5 : Bool)
/-- The rules of a node, in their order. -/
def nodeRules (g gi gn ge : Nat) : List RuleV := [⟨13, 56, #[.pointer (some ⟨g, 0, none⟩)], decide (1 ≤ a0 ∧ a0 ≤ 3)⟩, ⟨14, 57, #[.pointer (some ⟨g, 0, none⟩)], spareB a0 a1 a2 a3 l4 a5 a6 a7⟩, ⟨15, 59, #[.pointer (some ⟨gi, 0, none⟩), .pointer (some ⟨g, 0, none⟩), .pointer (some ⟨ge, 0, none⟩)], decide (inner = false ∨ (0 ≤ a2 ∧ a2 < (nf : Int)))⟩, ⟨16, 60, #[.pointer (some ⟨g, 0, none⟩)], feq a3 a3⟩, ⟨17, 61, #[.pointer (some ⟨g, 0, none⟩)], (if a0 = 3 then b5 else true)⟩, ⟨18, 63, #[.pointer (some ⟨gi, 0, none⟩), .pointer (some ⟨g, 0, none⟩)], decide (inner = false ∨ (a5 = 1 ∨ a5 = 2))⟩, ⟨19, 64, #[.pointer (some ⟨gi, 0, none⟩), .pointer (some ⟨g, 0, none⟩), .pointer (some ⟨gn, 0, none⟩)], decide (inner = false ∨ (1 ≤ a6 ∧ a6 < n ∧ 1 ≤ a7 ∧ a7 < n))⟩]
/-- The first rule that a node breaks. -/
def nodeV : Int :=
  if (decide (1 ≤ a0 ∧ a0 ≤ 3)) = true then
  (if (spareB a0 a1 a2 a3 l4 a5 a6 a7) = true then
  (if (decide (inner = false ∨ (0 ≤ a2 ∧ a2 < (nf : Int)))) = true then
  (if (feq a3 a3) = true then
  (if ((if a0 = 3 then b5 else true)) = true then
  (if (decide (inner = false ∨ (a5 = 1 ∨ a5 = 2))) = true then
  (if (decide (inner = false ∨ (1 ≤ a6 ∧ a6 < n ∧ 1 ≤ a7 ∧ a7 < n))) = true then 0 else 19) else 18) else 17) else 16) else 15) else 14) else 13

theorem blk_new2 (w : World) (o1 o2 : Obj) : ((w.alloc o1).alloc o2).heap[w.heap.size + 1]? = some o2 := by
  have h := blk_new (w.alloc o1) o2
  have e : (w.alloc o1).heap.size = w.heap.size + 1 := by show (w.heap.push o1).size = _; rw [Array.size_push]
  rwa [e] at h

theorem nodeRules_first (g gi gn ge : Nat) : (firstV (nodeRules a0 a1 a2 a3 l4 a5 a6 a7 nf inner n b5 g gi gn ge)).1 = (nodeV a0 a1 a2 a3 l4 a5 a6 a7 nf inner n b5) := by
  simp only [nodeRules, nodeV, firstV, apply_ite Prod.fst]

set_option maxHeartbeats 4000000 in
theorem node_first (g gi gn ge gr c0 : Nat) (W : World) (BX : Aside0 (W.heap[g]? = some (.cells #[.int .u8 a0, .int .i64 a1, .int .i64 a2, .float .f64 a3, .slice A4 l4.length c4, .int .u8 a5, .int .i64 a6, .int .i64 a7] 65 (0, 0)))) (BI : Aside0 (W.heap[gi]? = some (.cells #[.bool inner] 4 (0, 0)))) (BN : Aside0 (W.heap[gn]? = some (.cells #[.int .i64 n] 3 (0, 0)))) (BE : Aside0 (W.heap[ge]? = some (.cells #[.string nm, .slice AF nf cF, .int .i64 outs, .slice AB nb cB, .slice AT nt cT] 26 (0, 0)))) (BR : Aside0 (W.heap[gr]? = some (.cells #[.int .i64 13, .func (.func 56) #[] #[.pointer (some ⟨g, 0, none⟩)], .int .i64 14, .func (.func 57) #[] #[.pointer (some ⟨g, 0, none⟩)], .int .i64 15, .func (.func 59) #[] #[.pointer (some ⟨gi, 0, none⟩), .pointer (some ⟨g, 0, none⟩), .pointer (some ⟨ge, 0, none⟩)], .int .i64 16, .func (.func 60) #[] #[.pointer (some ⟨g, 0, none⟩)], .int .i64 17, .func (.func 61) #[] #[.pointer (some ⟨g, 0, none⟩)], .int .i64 18, .func (.func 63) #[] #[.pointer (some ⟨gi, 0, none⟩), .pointer (some ⟨g, 0, none⟩)], .int .i64 19, .func (.func 64) #[] #[.pointer (some ⟨gi, 0, none⟩), .pointer (some ⟨g, 0, none⟩), .pointer (some ⟨gn, 0, none⟩)]] 73 (0, 0)))) (hr4 : Aside0 (Kd.C (Kd.int .i64) W A4 l4.length l4)) (hc4 : Aside0 (l4.length ≤ c4)) (k : Nat) (hk : Aside0 (a0 = 3 → FCt.rules_cats.f k l4 = some b5)) :
    Calls Tryd.prog 23 #[.slice (some ⟨gr, 0, none⟩) 7 c0] W fun e w' => e = .returned (.tuple #[.int .i64 (nodeV a0 a1 a2 a3 l4 a5 a6 a7 nf inner n b5), .bool (firstV (nodeRules a0 a1 a2 a3 l4 a5 a6 a7 nf inner n b5 g gi gn ge)).2]) ∧ Below W.heap.size W w' := by
  have h := rules_first.calls ⟨gr, 0, none⟩ c0 (nodeRules a0 a1 a2 a3 l4 a5 a6 a7 nf inner n b5 g gi gn ge) (by simp [nodeRules]) W ⟨?_, ?_, ?_⟩
  · rw [nodeRules_first] at h
    exact h
  · intro i r h
    rcases i with _ | _ | _ | _ | _ | _ | _ | i
    · obtain rfl := Option.some.inj h; exact ⟨(blk_cell BR.out 0).trans rfl, (blk_cell BR.out 1).trans rfl⟩
    · obtain rfl := Option.some.inj h; exact ⟨(blk_cell BR.out 2).trans rfl, (blk_cell BR.out 3).trans rfl⟩
    · obtain rfl := Option.some.inj h; exact ⟨(blk_cell BR.out 4).trans rfl, (blk_cell BR.out 5).trans rfl⟩
    · obtain rfl := Option.some.inj h; exact ⟨(blk_cell BR.out 6).trans rfl, (blk_cell BR.out 7).trans rfl⟩
    · obtain rfl := Option.some.inj h; exact ⟨(blk_cell BR.out 8).trans rfl, (blk_cell BR.out 9).trans rfl⟩
    · obtain rfl := Option.some.inj h; exact ⟨(blk_cell BR.out 10).trans rfl, (blk_cell BR.out 11).trans rfl⟩
    · obtain rfl := Option.some.inj h; exact ⟨(blk_cell BR.out 12).trans rfl, (blk_cell BR.out 13).trans rfl⟩
    · simp [nodeRules] at h
  · intro r hr
    simp only [nodeRules, List.mem_cons, List.not_mem_nil, or_false] at hr
    rcases hr with rfl | rfl | rfl | rfl | rfl | rfl | rfl
    · exact enters_of Tryd.func56 (by kernel_rfl) rfl
    · exact enters_of Tryd.func57 (by kernel_rfl) rfl
    · exact enters_of Tryd.func59 (by kernel_rfl) rfl
    · exact enters_of Tryd.func60 (by kernel_rfl) rfl
    · exact enters_of Tryd.func61 (by kernel_rfl) rfl
    · exact enters_of Tryd.func63 (by kernel_rfl) rfl
    · exact enters_of Tryd.func64 (by kernel_rfl) rfl
  · intro r hr w' hb
    have BX' := Aside0.mk (blk_below BX.out hb)
    have BI' := Aside0.mk (blk_below BI.out hb)
    have BN' := Aside0.mk (blk_below BN.out hb)
    have BE' := Aside0.mk (blk_below BE.out hb)
    simp only [nodeRules, List.mem_cons, List.not_mem_nil, or_false] at hr
    rcases hr with rfl | rfl | rfl | rfl | rfl | rfl | rfl
    · exact rule1 (BX := BX') (H := ⟨rfl⟩)
    · exact rule2 (BX := BX')
    · exact rule3 (BX := BX') (BI := BI') (BE := BE') (H := ⟨rfl⟩)
    · exact rule4 (BX := BX') (H := ⟨rfl⟩)
    · by_cases e3 : a0 = 3
      · show Calls _ _ _ _ fun e w'' => e = .returned (.bool (if a0 = 3 then b5 else true)) ∧ _
        rw [if_pos e3]
        exact rule5c (BX := BX') (c3 := by simp [e3]) (k := k) (hr4 := ⟨Kd.C_below hr4.out hb⟩) (hc4 := hc4) (hk := ⟨hk.out e3⟩)
      · show Calls _ _ _ _ fun e w'' => e = .returned (.bool (if a0 = 3 then b5 else true)) ∧ _
        rw [if_neg e3]
        exact rule5x (BX := BX') (c3 := by simpa using e3)
    · exact rule6 (BX := BX') (BI := BI') (H := ⟨rfl⟩)
    · exact rule7 (BX := BX') (BI := BI') (BN := BN') (H := ⟨rfl⟩)

set_option maxHeartbeats 8000000 in
set_option maxRecDepth 100000 in
theorem rules_node.calls (w : World) (hi : Aside0 ((a0 != 1) = inner)) (hr4 : Aside0 (Kd.C (Kd.int .i64) w A4 l4.length l4)) (hc4 : Aside0 (l4.length ≤ c4)) (k : Nat) (hk : Aside0 (a0 = 3 → FCt.rules_cats.f k l4 = some b5)) (r : Int) (H : Aside0 ((nodeV a0 a1 a2 a3 l4 a5 a6 a7 nf inner n b5) = r)) :
    Calls Tryd.prog 48 #[.agg #[.string nm, .slice AF nf cF, .int .i64 outs, .slice AB nb cB, .slice AT nt cT], .agg #[.int .u8 a0, .int .i64 a1, .int .i64 a2, .float .f64 a3, .slice A4 l4.length c4, .int .u8 a5, .int .i64 a6, .int .i64 a7], .int .i64 n] w fun e w' => e = .returned (.int .i64 r) ∧ Below w.heap.size w w' := by
  have HB := Aside0.mk (Below.refl w.heap.size w)
  have hin := hi.out
  go_enter Tryd.func48, Tryd.ntmps48
  go_wp2_with (first | ((with_reducible refine gate_dst (N := 3) rfl ?_); refine box_event ?hg (N := 3) ?hd (cs := #[.string nm, .slice AF nf cF, .int .i64 outs, .slice AB nb cB, .slice AT nt cT]) (t := 26) ?hr ?_; (case hd => rfl); (case hg => rfl); (case hr => first | (go_simp; done) | (go_simp; rfl)); intro ge hg w1 hbox hb; have n0_ := Aside0.mk (below_step (kB0 HB) hb); have Be := Aside0.mk hbox; clear HB; have HB := n0_; clear n0_ hb hbox hg) | ((with_reducible refine gate_dst (N := 4) rfl ?_); refine box_event ?hg (N := 4) ?hd (cs := #[.int .u8 a0, .int .i64 a1, .int .i64 a2, .float .f64 a3, .slice A4 l4.length c4, .int .u8 a5, .int .i64 a6, .int .i64 a7]) (t := 65) ?hr ?_; (case hd => rfl); (case hg => rfl); (case hr => first | (go_simp; done) | (go_simp; rfl)); intro gx hg w2 hbox hb; have n0_ := Aside0.mk (below_step (kB0 HB) hb); have m1_ := Aside0.mk (blk_below (kb Be) hb); clear Be; have Be := m1_; clear m1_; have Bx := Aside0.mk hbox; clear HB; have HB := n0_; clear n0_ hb hbox hg; have hz := blk8 (w := w2) Bx.out) | ((with_reducible refine gate_dst (N := 5) rfl ?_); refine box_event ?hg (N := 5) ?hd (cs := #[.int .i64 n]) (t := 3) ?hr ?_; (case hd => rfl); (case hg => rfl); (case hr => first | (go_simp; done) | (go_simp; rfl)); intro gn hg w3 hbox hb; have n0_ := Aside0.mk (below_step (kB0 HB) hb); have m1_ := Aside0.mk (blk_below (kb Be) hb); have m2_ := Aside0.mk (blk_below (kb Bx) hb); clear Be Bx hz; have Be := m1_; have Bx := m2_; clear m1_ m2_; have Bn := Aside0.mk hbox; clear HB; have HB := n0_; clear n0_ hb hbox hg; have hz := blk8 (w := w3) Bx.out) | (go_at_call 23; have W0 := Aside0.mk (blk_new w3 (.cells #[.bool inner] 4 (0, 0))); refine (node_first a0 a1 a2 a3 A4 c4 l4 a5 a6 a7 nm AF nf cF outs AB nb cB AT nt cT inner n b5 gx w3.heap.size gn ge (w3.heap.size + 1) 7 _ ⟨kb Bx⟩ ⟨blk_alloc W0.out _⟩ ⟨kb Bn⟩ ⟨kb Be⟩ ⟨?hr⟩ ⟨?hk⟩ hc4 k hk).mono ?_; (case hr => exact blk_new2 _ _ _); (case hk => exact Kd.C_below hr4.out (kB0 HB)); rintro e w4 ⟨rfl, hb⟩; have n1_ := Aside0.mk (below_step (kB0 HB) hb); clear HB; have HB := n1_; clear n1_ hb))
  go_ret
  exact ⟨congrArg (fun z => Ending.returned (Value.int .i64 z)) H.out, kB0 HB⟩
end
end Go.Proofs.YtpeiafamkajedaaDoor.FAll
