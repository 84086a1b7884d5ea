/-
  rules.tree: its two rules, its loop over the nodes, and what it answers.
-/
import Derived.Test.YtpeiafamkajedaaDoorRo
namespace Go.Proofs.YtpeiafamkajedaaDoor.FAll
open Go.RowKit Go.Shelf Go.Proofs.YtpeiafamkajedaaDoorW.PrintWords Go.Proofs.YtpeiafamkajedaaDoorW.PrintLast Go.Proofs.YtpeiafamkajedaaDoorW.PrintMore
attribute [local go_sem] fstore_walk
set_option linter.unusedVariables false
set_option linter.unusedSimpArgs false

section
variable {α β : Type} {r : α}
theorem evp {c : Prop} [Decidable c] {g f : Nat → Option α} (h : c) (H : Ev g r) : Ev (fun k => if c then g k else f k) r := Ev.congr (fun k => if_pos h) H
theorem evn {c : Prop} [Decidable c] {g f : Nat → Option α} (h : ¬ c) (H : Ev f r) : Ev (fun k => if c then g k else f k) r := Ev.congr (fun k => if_neg h) H
theorem eve {g : Nat → Option α} {v : α} (H : Ev g v) (h : v = r) : Ev g r := h ▸ H
end

/-- Is a list of categories right? -/
def catsG (l : List Int) : Nat → Nat → Bool
  | 0, _ => decide (0 < l.length)
  | d + 1, i => if rd l (i : Int) < 0 ∨ 1024 ≤ rd l (i : Int) ∨ (0 < i ∧ rd l (i : Int) ≤ rd l ((i : Int) - 1)) then false else catsG l d (i + 1)
def catsB (l : List Int) : Bool := catsG l l.length 0
theorem cats_ev (l : List Int) (hl : l.length ≤ 9223372036854775807) : ∀ d i : Nat, i + d = l.length → Ev (fun k => FCt.rules_cats.l0 k l l (l.length : Int) (i : Int)) (catsG l d i) := by
  intro d
  induction d with
  | zero =>
    intro i hi
    refine Ev.step (f := fun k => _) (fun k => rfl) ?_
    refine evn (by omega) ?_
    refine eve (Ev.now _) ?_
    unfold catsG
    exact decide_eq_decide.2 (by omega)
  | succ d ih =>
    intro i hi
    refine Ev.step (f := fun k => _) (fun k => rfl) ?_
    refine evp (by omega) ?_
    refine evp (by omega) ?_
    refine evp (by omega) ?_
    unfold catsG
    by_cases h1 : rd l (i : Int) < 0
    · refine evp h1 ?_
      exact eve (Ev.now _) (by rw [if_pos (Or.inl h1)])
    · refine evn h1 ?_
      by_cases h2 : rd l (i : Int) ≥ 1024
      · refine evp h2 ?_
        exact eve (Ev.now _) (by rw [if_pos (Or.inr (Or.inl h2))])
      · refine evn h2 ?_
        have e1 : wrap64 ((i : Int) + 1) = ((i + 1 : Nat) : Int) := by unfold wrap64; omega
        by_cases h3 : (i : Int) > 0
        · have e2 : wrap64 ((i : Int) - 1) = (i : Int) - 1 := by unfold wrap64; omega
          refine evp h3 ?_
          rw [e2]
          refine evp (by omega) ?_
          refine evp (by omega) ?_
          by_cases h4 : rd l (i : Int) ≤ rd l ((i : Int) - 1)
          · refine evp h4 ?_
            exact eve (Ev.now _) (by rw [if_pos (Or.inr (Or.inr ⟨by omega, h4⟩))])
          · refine evn h4 ?_
            rw [if_neg (by omega), e1]
            exact ih (i + 1) (by omega)
        · refine evn h3 ?_
          rw [if_neg (by omega), e1]
          exact ih (i + 1) (by omega)
theorem cats_total (l : List Int) (hl : l.length ≤ 9223372036854775807) : ∃ k, FCt.rules_cats.f k l = some (catsB l) := (cats_ev l hl l.length 0 (by omega)).rounds

/-- The first rule that a node breaks, the node as it stands. -/
def nodeX (nf : Nat) (n : Int) (x : S65) : Int := nodeV x.f0 x.f1 x.f2 x.f3 x.f4 x.f5 x.f6 x.f7 nf (x.f0 != 1) n (catsB x.f4)
/-- The first node that breaks one. -/
def scanF (nf : Nat) (ns : List S65) : Nat → Nat → Option (Int × Int)
  | 0, _ => none
  | d + 1, i => if nodeX nf ns.length (rd_T65 ns (i : Int)) = 0 then scanF nf ns d (i + 1) else some (nodeX nf ns.length (rd_T65 ns (i : Int)), (i : Int))
/-- What rules.tree answers, where Shape answers so. -/
def treeV (nf : Nat) (outs t0 : Int) (ns : List S65) (shape : Int × Int) : Int × Int :=
  if 0 ≤ t0 ∧ t0 < outs then
    (if 1 ≤ ns.length ∧ ns.length ≤ 8191 then
      (match scanF nf ns ns.length 0 with
       | some p => p
       | none => if shape.1 = 0 then (0, 0) else (20, shape.2))
     else (12, -1))
  else (11, -1)
section
variable (ge gt : Nat) (nm : ByteArray) (AF : Option Addr) (nf cF : Nat) (outs : Int) (AB : Option Addr) (nb cB : Nat) (AT : Option Addr) (nt cT : Nat) (t0 : Int) (A1 : Option Addr) (c1 : Nat) (ns : List S65)

set_option maxHeartbeats 8000000 in
set_option maxRecDepth 100000 in
theorem treeRule1 (w : World) (BT : Aside0 (w.heap[gt]? = some (.cells #[.int .i64 t0, .slice A1 ns.length c1] 37 (0, 0)))) (BE : Aside0 (w.heap[ge]? = some (.cells #[.string nm, .slice AF nf cF, .int .i64 outs, .slice AB nb cB, .slice AT nt cT] 26 (0, 0)))) (r : Bool) (H : Aside0 (decide (0 ≤ t0 ∧ t0 < outs) = r)) :
    Calls Tryd.prog 46 #[.pointer (some ⟨gt, 0, none⟩), .pointer (some ⟨ge, 0, none⟩)] w fun e w' => e = .returned (.bool r) ∧ Below w.heap.size w w' := by
  have HB := Aside0.mk (Below.refl w.heap.size w)
  have ht := blk2 (w := w) BT.out
  have he := blk5 (w := w) BE.out
  go_enter Tryd.func46, Tryd.ntmps46
  go_wp2
  all_goals first
    | (go_ret; refine ⟨congrArg (fun z => Ending.returned (Value.bool z)) ?_, kB0 HB⟩; have h := H.out; first | exact h | (rw [← h]; first | exact (decide_eq_true (by omega)).symm | exact (decide_eq_false (by omega)).symm | exact decide_eq_decide.2 (by omega)))
    | (exfalso; first | (simp_all; done) | (simp_all; omega))

set_option maxHeartbeats 8000000 in
set_option maxRecDepth 100000 in
theorem treeRule2 (w : World) (BT : Aside0 (w.heap[gt]? = some (.cells #[.int .i64 t0, .slice A1 ns.length c1] 37 (0, 0)))) (r : Bool) (H : Aside0 (decide (1 ≤ ns.length ∧ ns.length ≤ 8191) = r)) :
    Calls Tryd.prog 47 #[.pointer (some ⟨gt, 0, none⟩)] w fun e w' => e = .returned (.bool r) ∧ Below w.heap.size w w' := by
  have HB := Aside0.mk (Below.refl w.heap.size w)
  have ht := blk2 (w := w) BT.out
  go_enter Tryd.func47, Tryd.ntmps47
  go_wp2
  all_goals first
    | (go_ret; refine ⟨congrArg (fun z => Ending.returned (Value.bool z)) ?_, kB0 HB⟩; have h := H.out; first | exact h | (rw [← h]; first | exact (decide_eq_true (by omega)).symm | exact (decide_eq_false (by omega)).symm | exact decide_eq_decide.2 (by omega)))
    | (exfalso; first | (simp_all; done) | (simp_all; omega))

/-- The rules of a tree ahead of its nodes'. -/
def treeRules : List RuleV := [⟨11, 46, #[.pointer (some ⟨gt, 0, none⟩), .pointer (some ⟨ge, 0, none⟩)], decide (0 ≤ t0 ∧ t0 < outs)⟩, ⟨12, 47, #[.pointer (some ⟨gt, 0, none⟩)], decide (1 ≤ ns.length ∧ ns.length ≤ 8191)⟩]
/-- What first makes of them. -/
def treeHead : Int × Bool := if 0 ≤ t0 ∧ t0 < outs then (if 1 ≤ ns.length ∧ ns.length ≤ 8191 then (0, false) else (12, true)) else (11, true)
theorem treeRules_first : firstV (treeRules ge gt outs t0 ns) = treeHead outs t0 ns := by
  simp only [treeRules, treeHead, firstV, decide_eq_true_eq]
theorem tree_first (gr c0 : Nat) (W : World) (BT : Aside0 (W.heap[gt]? = some (.cells #[.int .i64 t0, .slice A1 ns.length c1] 37 (0, 0)))) (BE : Aside0 (W.heap[ge]? = some (.cells #[.string nm, .slice AF nf cF, .int .i64 outs, .slice AB nb cB, .slice AT nt cT] 26 (0, 0)))) (BR : Aside0 (W.heap[gr]? = some (.cells #[.int .i64 11, .func (.func 46) #[] #[.pointer (some ⟨gt, 0, none⟩), .pointer (some ⟨ge, 0, none⟩)], .int .i64 12, .func (.func 47) #[] #[.pointer (some ⟨gt, 0, none⟩)]] 73 (0, 0)))) :
    Calls Tryd.prog 23 #[.slice (some ⟨gr, 0, none⟩) 2 c0] W fun e w' => e = .returned (.tuple #[.int .i64 (treeHead outs t0 ns).1, .bool (treeHead outs t0 ns).2]) ∧ Below W.heap.size W w' := by
  have h := rules_first.calls ⟨gr, 0, none⟩ c0 (treeRules ge gt outs t0 ns) (by simp [treeRules]) W ⟨?_, ?_, ?_⟩
  · rw [treeRules_first] at h
    exact h
  · intro i r h
    rcases i with _ | _ | i
    · obtain rfl := Option.some.inj h; exact ⟨(blk_cell BR.out 0).trans rfl, (blk_cell BR.out 1).trans rfl⟩
    · obtain rfl := Option.some.inj h; exact ⟨(blk_cell BR.out 2).trans rfl, (blk_cell BR.out 3).trans rfl⟩
    · simp [treeRules] at h
  · intro r hr
    simp only [treeRules, List.mem_cons, List.not_mem_nil, or_false] at hr
    rcases hr with rfl | rfl
    · exact enters_of Tryd.func46 (by kernel_rfl) rfl
    · exact enters_of Tryd.func47 (by kernel_rfl) rfl
  · intro r hr w' hb
    have BT' := Aside0.mk (blk_below BT.out hb)
    have BE' := Aside0.mk (blk_below BE.out hb)
    simp only [treeRules, List.mem_cons, List.not_mem_nil, or_false] at hr
    rcases hr with rfl | rfl
    · exact treeRule1 (BT := BT') (BE := BE') (H := ⟨rfl⟩)
    · exact treeRule2 (BT := BT') (H := ⟨rfl⟩)

set_option maxHeartbeats 8000000 in
set_option maxRecDepth 100000 in
theorem rules_tree.calls (w : World) (hr0 : Aside0 (Kd.C k65 w A1 ns.length ns)) (hc0 : Aside0 (ns.length ≤ c1)) (k : Nat) (s1 s2 : Int) (hS : Aside0 (1 ≤ ns.length → trees_Shape.f k t0 ns = some (s1, s2))) (r1 r2 : Int) (H : Aside0 (treeV nf outs t0 ns (s1, s2) = (r1, r2))) :
    Calls Tryd.prog 32 #[.agg #[.string nm, .slice AF nf cF, .int .i64 outs, .slice AB nb cB, .slice AT nt cT], .agg #[.int .i64 t0, .slice A1 ns.length c1]] w fun e w' => e = .returned (.tuple #[.int .i64 r1, .int .i64 r2]) ∧ Below w.heap.size w w' := by
  have HB := Aside0.mk (Below.refl w.heap.size w)
  by_cases q1 : 0 ≤ t0 ∧ t0 < outs
  · by_cases q2 : 1 ≤ ns.length ∧ ns.length ≤ 8191
    · have hh : (treeHead outs t0 ns) = (0, false) := by unfold treeHead; rw [if_pos q1, if_pos q2]
      have hh1 : (treeHead outs t0 ns).1 = 0 := by rw [hh]
      have hh2 : (treeHead outs t0 ns).2 = false := by rw [hh]
      have Q2 := Aside0.mk q2
      have H2 : (match scanF nf ns ns.length 0 with
       | some p => p
       | none => if s1 = 0 then (0, 0) else (20, s2)) = (r1, r2) := by have h := H.out; unfold treeV at h; rw [if_pos q1, if_pos q2] at h; exact h
      have HH := Aside0.mk H2
      clear q1 q2 hh H H2
      go_enter Tryd.func32, Tryd.ntmps32
      go_wp2_with (first | ((with_reducible refine gate_dst (N := 2) rfl ?_); refine box_event ?hg (N := 2) ?hd (cs := #[.string nm, .slice AF nf cF, .int .i64 outs, .slice AB nb cB, .slice AT nt cT]) (t := 26) ?hr ?_; (case hd => rfl); (case hg => rfl); (case hr => first | (go_simp; done) | (go_simp; rfl)); intro ge hg w1 hbox hb; have n0_ := Aside0.mk (below_step (kB0 HB) hb); have Be := Aside0.mk hbox; clear HB; have HB := n0_; clear n0_ hb hbox hg) | ((with_reducible refine gate_dst (N := 3) rfl ?_); refine box_event ?hg (N := 3) ?hd (cs := #[.int .i64 t0, .slice A1 ns.length c1]) (t := 37) ?hr ?_; (case hd => rfl); (case hg => rfl); (case hr => first | (go_simp; done) | (go_simp; rfl)); intro gt hg w2 hbox hb; have n0_ := Aside0.mk (below_step (kB0 HB) hb); have m1_ := Aside0.mk (blk_below (kb Be) hb); clear Be; have Be := m1_; clear m1_; have Bt := Aside0.mk hbox; clear HB; have HB := n0_; clear n0_ hb hbox hg; have ht := blk2 (w := w2) Bt.out; have he := blk5 (w := w2) Be.out) | (go_at_call 23; refine (tree_first ge gt nm AF nf cF outs AB nb cB AT nt cT t0 A1 c1 ns w2.heap.size 2 _ ⟨blk_alloc Bt.out _⟩ ⟨blk_alloc Be.out _⟩ ⟨blk_new _ _⟩).mono ?_; rintro e w4 ⟨rfl, hb⟩; have n1_ := Aside0.mk (below_step (kB0 HB) hb); have m1_ := Aside0.mk (blk_below (blk_alloc Be.out _) hb); have m2_ := Aside0.mk (blk_below (blk_alloc Bt.out _) hb); clear HB Be Bt ht he; have HB := n1_; have Be := m1_; have Bt := m2_; clear n1_ m1_ m2_ hb; have ht := blk2 (w := w4) Bt.out; have he := blk5 (w := w4) Be.out))
      clear ht he
      go_loopg [27] (ns.length + 1) (fun kq v27 w' => ∃ (x : Int) (n : Nat), v27 = .int .i64 x ∧ Aside0 (x = n) ∧ Aside0 (scanF nf ns (ns.length - n) n = scanF nf ns ns.length 0) ∧ Aside0 (n ≤ ns.length) ∧ Aside0 (ns.length - n < kq) ∧ Aside0 (w'.heap[ge]? = some (.cells #[.string nm, .slice AF nf cF, .int .i64 outs, .slice AB nb cB, .slice AT nt cT] 26 (0, 0))) ∧ Aside0 (w'.heap[gt]? = some (.cells #[.int .i64 t0, .slice A1 ns.length c1] 37 (0, 0))) ∧ Aside0 (Below w.heap.size w w'))
      case atStart => exact ⟨0, 0, rfl, ⟨rfl⟩, ⟨rfl⟩, ⟨Nat.zero_le _⟩, ⟨by omega⟩, ⟨kb Be⟩, ⟨kb Bt⟩, ⟨kB0 HB⟩⟩
      case round =>
        clear HB Be Bt hh1 hh2
        obtain ⟨x, n, rfl, hx, hs, hn, hk, Be, Bt, HB⟩ := hrel
        cases gk with
        | zero => exact absurd hk.out (by omega)
        | succ k1 =>
          have ht := blk2 (w := wr) Bt.out
          have he := blk5 (w := wr) Be.out
          have hxx := hx.out
          have hnn := hn.out
          by_cases hend : n = ns.length
          · have cnd : decide (x < (ns.length : Int)) = false := decide_eq_false (by omega)
            have hnone : scanF nf ns ns.length 0 = none := by rw [← hs.out, hend, Nat.sub_self]; rfl
            have H3 := HH.out
            rw [hnone] at H3
            replace H3 : (if s1 = 0 then ((0 : Int), (0 : Int)) else (20, s2)) = (r1, r2) := H3
            have HC := Aside0.mk (Kd.C_below hr0.out HB.out)
            have hS1 := Aside0.mk (hS.out (by have := Q2.out; omega))
            by_cases z : s1 = 0
            · have d1 : (s1 == 0) = true := beq_iff_eq.mpr z
              have d2 : (s1 != 0) = false := bne_eq_false_iff_eq.mpr z
              rw [if_pos z] at H3
              obtain ⟨rfl, rfl⟩ := Prod.mk.inj H3
              clear hxx hnn hend z H3 hnone HH
              go_wp2_with (first | (go_at_call 22; (with_reducible refine (trees_Shape.calls k t0 A1 c1 ns s1 s2 _ ?side1 ?side2 hS1.out).mono ?_); (case side1 => repeat (first | exact HC.out | (with_reducible refine Kd.C_alloc ?_ _) | (with_reducible refine Kd.C_drewN ?_ _) | (with_reducible refine Kd.C_drew ?_))); (case side2 => exact hc0.out); rintro e w5 ⟨rfl, hb⟩; have n1_ := Aside0.mk (below_step (kB0 HB) hb); clear HB; have HB := n1_; clear n1_ hb))
              go_ret2
              exact ⟨rfl, kB0 HB⟩
            · have d1 : (s1 == 0) = false := beq_eq_false_iff_ne.mpr z
              have d2 : (s1 != 0) = true := bne_iff_ne.mpr z
              rw [if_neg z] at H3
              obtain ⟨rfl, rfl⟩ := Prod.mk.inj H3
              clear hxx hnn hend z H3 hnone HH
              go_wp2_with (first | (go_at_call 22; (with_reducible refine (trees_Shape.calls k t0 A1 c1 ns s1 s2 _ ?side1 ?side2 hS1.out).mono ?_); (case side1 => repeat (first | exact HC.out | (with_reducible refine Kd.C_alloc ?_ _) | (with_reducible refine Kd.C_drewN ?_ _) | (with_reducible refine Kd.C_drew ?_))); (case side2 => exact hc0.out); rintro e w5 ⟨rfl, hb⟩; have n1_ := Aside0.mk (below_step (kB0 HB) hb); clear HB; have HB := n1_; clear n1_ hb))
              go_ret2
              exact ⟨rfl, kB0 HB⟩
          · have cnd : decide (x < (ns.length : Int)) = true := decide_eq_true (by omega)
            have p1 : 0 ≤ x := by omega
            have p2 : x < (ns.length : Int) := by omega
            have hlt : n < ns.length := by omega
            obtain ⟨ad, A4, c4, rfl, e0, e1, e2, e3, e4, e5, e6, e7, l4, g4⟩ := at_T65 hr0.out x p1 p2
            obtain ⟨y, hy⟩ : ∃ y, y = rd_T65 ns x := ⟨_, rfl⟩
            rw [← hy] at e0 e1 e2 e3 e4 e5 e6 e7 l4 g4
            obtain ⟨kc, hkc⟩ := cats_total y.f4 (show ReadsRow _ _ _ _ _ _ from g4).2.1
            have hstep : scanF nf ns (ns.length - n) n = if nodeX nf ns.length y = 0 then scanF nf ns (ns.length - (n + 1)) (n + 1) else some (nodeX nf ns.length y, x) := by
              rw [show ns.length - n = (ns.length - (n + 1)) + 1 by omega, hy, hxx]
              rfl
            replace e0 := (HB.out.cell (World.block_lt_of_cell? w _ e0)).trans e0
            replace e1 := (HB.out.cell (World.block_lt_of_cell? w _ e1)).trans e1
            replace e2 := (HB.out.cell (World.block_lt_of_cell? w _ e2)).trans e2
            replace e3 := (HB.out.cell (World.block_lt_of_cell? w _ e3)).trans e3
            replace e4 := (HB.out.cell (World.block_lt_of_cell? w _ e4)).trans e4
            replace e5 := (HB.out.cell (World.block_lt_of_cell? w _ e5)).trans e5
            replace e6 := (HB.out.cell (World.block_lt_of_cell? w _ e6)).trans e6
            replace e7 := (HB.out.cell (World.block_lt_of_cell? w _ e7)).trans e7
            have G4 := Aside0.mk g4
            have L4 := Aside0.mk l4
            have KC := Aside0.mk hkc
            have ST := Aside0.mk (hstep.symm.trans hs.out)
            have HLT := Aside0.mk hlt
            obtain ⟨v, hv⟩ : ∃ v, v = nodeX nf ns.length y := ⟨_, rfl⟩
            have HV := Aside0.mk hv.symm
            replace p1 := eq_true p1
            replace p2 := eq_true p2
            have he2 := fun o => blk5 (w := wr.alloc o) (blk_alloc Be.out o)
            have ht2 := fun o => blk2 (w := wr.alloc o) (blk_alloc Bt.out o)
            clear hxx hnn hend hstep g4 l4 hkc hlt hy
            by_cases z : v = 0
            · have d1 : (v == 0) = true := beq_iff_eq.mpr z
              have d2 : (v != 0) = false := bne_eq_false_iff_eq.mpr z
              have ST2 := Aside0.mk (by have h := ST.out; rw [← hv, if_pos z] at h; exact h)
              clear z hv ST
              go_wp2_with (first | (go_at_call 48; refine (rules_node.calls y.f0 y.f1 y.f2 y.f3 A4 c4 y.f4 y.f5 y.f6 y.f7 nm AF nf cF outs AB nb cB AT nt cT (y.f0 != 1) ns.length (catsB y.f4) _ ⟨rfl⟩ ⟨Kd.C_below G4.out (kB0 HB)⟩ L4 kc ⟨fun _ => KC.out⟩ v HV).mono ?_; rintro e w5 ⟨rfl, hb⟩; have n1_ := Aside0.mk (below_step (kB0 HB) hb); have m1_ := Aside0.mk (blk_below (kb Be) hb); have m2_ := Aside0.mk (blk_below (kb Bt) hb); clear HB Be Bt; have HB := n1_; have Be := m1_; have Bt := m2_; clear n1_ m1_ m2_ hb))
              go_roundg k1
              case measure => have := hk.out; omega
              case rel => exact ⟨_, n + 1, rfl, ⟨by have := hx.out; have := HLT.out; have := Q2.out; unfold wrap64; omega⟩, ST2, ⟨HLT.out⟩, ⟨by have := hk.out; have := HLT.out; omega⟩, ⟨kb Be⟩, ⟨kb Bt⟩, ⟨kB0 HB⟩⟩
            · have d1 : (v == 0) = false := beq_eq_false_iff_ne.mpr z
              have d2 : (v != 0) = true := bne_iff_ne.mpr z
              have H3 := HH.out
              rw [← ST.out, ← hv, if_neg z] at H3
              obtain ⟨rfl, rfl⟩ := Prod.mk.inj H3
              clear z hv ST H3 HH
              go_wp2_with (first | (go_at_call 48; refine (rules_node.calls y.f0 y.f1 y.f2 y.f3 A4 c4 y.f4 y.f5 y.f6 y.f7 nm AF nf cF outs AB nb cB AT nt cT (y.f0 != 1) ns.length (catsB y.f4) _ ⟨rfl⟩ ⟨Kd.C_below G4.out (kB0 HB)⟩ L4 kc ⟨fun _ => KC.out⟩ v HV).mono ?_; rintro e w5 ⟨rfl, hb⟩; have n1_ := Aside0.mk (below_step (kB0 HB) hb); have m1_ := Aside0.mk (blk_below (kb Be) hb); have m2_ := Aside0.mk (blk_below (kb Bt) hb); clear HB Be Bt; have HB := n1_; have Be := m1_; have Bt := m2_; clear n1_ m1_ m2_ hb))
              go_ret2
              exact ⟨rfl, kB0 HB⟩
    · have hh : (treeHead outs t0 ns) = (12, true) := by unfold treeHead; rw [if_pos q1, if_neg q2]
      have hh1 : (treeHead outs t0 ns).1 = 12 := by rw [hh]
      have hh2 : (treeHead outs t0 ns).2 = true := by rw [hh]
      have H2 : ((12 : Int), (-1 : Int)) = (r1, r2) := by have h := H.out; unfold treeV at h; rw [if_pos q1, if_neg q2] at h; exact h
      obtain ⟨rfl, rfl⟩ := Prod.mk.inj H2
      clear q1 q2 hh H2
      go_enter Tryd.func32, Tryd.ntmps32
      go_wp2_with (first | ((with_reducible refine gate_dst (N := 2) rfl ?_); refine box_event ?hg (N := 2) ?hd (cs := #[.string nm, .slice AF nf cF, .int .i64 outs, .slice AB nb cB, .slice AT nt cT]) (t := 26) ?hr ?_; (case hd => rfl); (case hg => rfl); (case hr => first | (go_simp; done) | (go_simp; rfl)); intro ge hg w1 hbox hb; have n0_ := Aside0.mk (below_step (kB0 HB) hb); have Be := Aside0.mk hbox; clear HB; have HB := n0_; clear n0_ hb hbox hg) | ((with_reducible refine gate_dst (N := 3) rfl ?_); refine box_event ?hg (N := 3) ?hd (cs := #[.int .i64 t0, .slice A1 ns.length c1]) (t := 37) ?hr ?_; (case hd => rfl); (case hg => rfl); (case hr => first | (go_simp; done) | (go_simp; rfl)); intro gt hg w2 hbox hb; have n0_ := Aside0.mk (below_step (kB0 HB) hb); have m1_ := Aside0.mk (blk_below (kb Be) hb); clear Be; have Be := m1_; clear m1_; have Bt := Aside0.mk hbox; clear HB; have HB := n0_; clear n0_ hb hbox hg; have ht := blk2 (w := w2) Bt.out; have he := blk5 (w := w2) Be.out) | (go_at_call 23; refine (tree_first ge gt nm AF nf cF outs AB nb cB AT nt cT t0 A1 c1 ns w2.heap.size 2 _ ⟨blk_alloc Bt.out _⟩ ⟨blk_alloc Be.out _⟩ ⟨blk_new _ _⟩).mono ?_; rintro e w4 ⟨rfl, hb⟩; have n1_ := Aside0.mk (below_step (kB0 HB) hb); have m1_ := Aside0.mk (blk_below (blk_alloc Be.out _) hb); have m2_ := Aside0.mk (blk_below (blk_alloc Bt.out _) hb); clear HB Be Bt ht he; have HB := n1_; have Be := m1_; have Bt := m2_; clear n1_ m1_ m2_ hb; have ht := blk2 (w := w4) Bt.out; have he := blk5 (w := w4) Be.out))
      go_ret2
      exact ⟨rfl, kB0 HB⟩
  · have hh : (treeHead outs t0 ns) = (11, true) := by unfold treeHead; rw [if_neg q1]
    have hh1 : (treeHead outs t0 ns).1 = 11 := by rw [hh]
    have hh2 : (treeHead outs t0 ns).2 = true := by rw [hh]
    have H2 : ((11 : Int), (-1 : Int)) = (r1, r2) := by have h := H.out; unfold treeV at h; rw [if_neg q1] at h; exact h
    obtain ⟨rfl, rfl⟩ := Prod.mk.inj H2
    clear q1 hh H2
    go_enter Tryd.func32, Tryd.ntmps32
    go_wp2_with (first | ((with_reducible refine gate_dst (N := 2) rfl ?_); refine box_event ?hg (N := 2) ?hd (cs := #[.string nm, .slice AF nf cF, .int .i64 outs, .slice AB nb cB, .slice AT nt cT]) (t := 26) ?hr ?_; (case hd => rfl); (case hg => rfl); (case hr => first | (go_simp; done) | (go_simp; rfl)); intro ge hg w1 hbox hb; have n0_ := Aside0.mk (below_step (kB0 HB) hb); have Be := Aside0.mk hbox; clear HB; have HB := n0_; clear n0_ hb hbox hg) | ((with_reducible refine gate_dst (N := 3) rfl ?_); refine box_event ?hg (N := 3) ?hd (cs := #[.int .i64 t0, .slice A1 ns.length c1]) (t := 37) ?hr ?_; (case hd => rfl); (case hg => rfl); (case hr => first | (go_simp; done) | (go_simp; rfl)); intro gt hg w2 hbox hb; have n0_ := Aside0.mk (below_step (kB0 HB) hb); have m1_ := Aside0.mk (blk_below (kb Be) hb); clear Be; have Be := m1_; clear m1_; have Bt := Aside0.mk hbox; clear HB; have HB := n0_; clear n0_ hb hbox hg; have ht := blk2 (w := w2) Bt.out; have he := blk5 (w := w2) Be.out) | (go_at_call 23; refine (tree_first ge gt nm AF nf cF outs AB nb cB AT nt cT t0 A1 c1 ns w2.heap.size 2 _ ⟨blk_alloc Bt.out _⟩ ⟨blk_alloc Be.out _⟩ ⟨blk_new _ _⟩).mono ?_; rintro e w4 ⟨rfl, hb⟩; have n1_ := Aside0.mk (below_step (kB0 HB) hb); have m1_ := Aside0.mk (blk_below (blk_alloc Be.out _) hb); have m2_ := Aside0.mk (blk_below (blk_alloc Bt.out _) hb); clear HB Be Bt ht he; have HB := n1_; have Be := m1_; have Bt := m2_; clear n1_ m1_ m2_ hb; have ht := blk2 (w := w4) Bt.out; have he := blk5 (w := w4) Be.out))
    go_ret2
    exact ⟨rfl, kB0 HB⟩
end
end Go.Proofs.YtpeiafamkajedaaDoor.FAll
