/-
  The law RulesWhole: its walk.
-/
import Derived.Test.YtnnfbnpgghljnaaDoorGb
import Derived.Test.YtnnfbnpgghljnaaDoorPv
import Derived.Laws.StructEq
namespace Go.Proofs.YtnnfbnpgghljnaaDoor.FAll
open Go.RowKit Go.Shelf Go.Maps Go.WideMaps Go.Proofs.YtnnfbnpgghljnaaDoorW.PrintWords Go.Proofs.YtnnfbnpgghljnaaDoorW.PrintLast Go.Proofs.YtnnfbnpgghljnaaDoorW.PrintMore
attribute [local go_sem] fstore_walk
set_option linter.unusedVariables false
set_option linter.unusedSimpArgs false
section
variable (nm : ByteArray) (AF : Option Addr) (cF : Nat) (fs : List ByteArray) (outs : Int) (AB : Option Addr) (cB : Nat) (bs : List Int) (AT : Option Addr) (cT : Nat) (ts : List S39) (AX : Option Addr) (cX : Nat) (xs : List Nat)
set_option maxHeartbeats 8000000 in
set_option maxRecDepth 100000 in
theorem trees_Score.bad (w : World) (ho1 : 1 ≤ outs) (ho2 : (bs.length : Int) = outs) (hx : xs.length ≠ fs.length) :
    Calls Tryd.prog 10 #[.agg #[.string nm, .slice AF fs.length cF, .int .i64 outs, .slice AB bs.length cB, .slice AT ts.length cT], .slice AX xs.length cX] w fun e w' => e = .returned (.tuple #[.slice none 0 0, .int .i64 72]) ∧ Below w.heap.size w w' := by
  have HB := Aside0.mk (Below.refl w.heap.size w)
  have d1 : decide (outs < 1) = false := decide_eq_false (by omega)
  have d2 : ((bs.length : Int) != outs) = false := by simp [ho2]
  have d3 : ((xs.length : Int) != (fs.length : Int)) = true := by simp; omega
  clear ho1 ho2 hx
  go_enter Tryd.func10, Tryd.ntmps10
  go_wp2_with (first | ((with_reducible refine gate_dst (N := 2) rfl ?_); refine box_event ?hg (N := 2) ?hd (cs := #[.string nm, .slice AF fs.length cF, .int .i64 outs, .slice AB bs.length cB, .slice AT ts.length cT]) (t := 26) ?hr ?_; (case hd => rfl); (case hg => rfl); (case hr => first | (go_simp; done) | (go_simp; rfl)); intro ge hg w1 hbox hb; have n0_ := Aside0.mk (below_step (kB0 HB) hb); have Bge := Aside0.mk hbox; clear HB; have HB := n0_; clear n0_ hb hbox hg; have he := blk5 (w := w1) Bge.out))
  go_ret2
  exact ⟨rfl, kB0 HB⟩
set_option maxHeartbeats 16000000 in
set_option maxRecDepth 100000 in
theorem whole_wrong (w : World) (hfs : Aside0 (Kd.C Kd.string w AF fs.length fs)) (hsz : Aside0 (∀ s ∈ fs, s.size ≤ maxLen)) (hbs : Aside0 (Kd.C (Kd.int .i64) w AB bs.length bs)) (hts : Aside0 (Kd.C k39 w AT ts.length ts)) (htab : Aside0 (Tab w))
    (hsh : Aside0 (∀ y ∈ ts, ∃ k, 1 ≤ y.f1.length → trees_Shape.f k y.f0 y.f1 = some ((shapeV y).1, (shapeV y).2))) (r1 r2 r3 : Int) (HC : Aside0 (checkV shapeV nm fs outs bs ts = (r1, r2, r3))) (hr : r1 ≠ 0) :
    Calls Tryd.prog 3 #[.agg #[.string nm, .slice AF fs.length cF, .int .i64 outs, .slice AB bs.length cB, .slice AT ts.length cT], .slice AX xs.length cX] w fun e w' => e = .returned (.bool true) ∧ Below w.heap.size w w' := by
  have HB := Aside0.mk (Below.refl w.heap.size w)
  have d1 : decide (r1 = 0 ∧ r2 = 0 ∧ r3 = 0) = false := decide_eq_false (fun h => hr h.1)
  have d2 : (r1 != 0) = true := by simpa using hr
  clear hr
  go_enter Tryd.func3, Tryd.ntmps3
  go_wp2_with (first | ((with_reducible refine gate_dst (N := 2) rfl ?_); refine box_event ?hg (N := 2) ?hd (cs := #[.string nm, .slice AF fs.length cF, .int .i64 outs, .slice AB bs.length cB, .slice AT ts.length cT]) (t := 26) ?hr ?_; (case hd => rfl); (case hg => rfl); (case hr => first | (go_simp; done) | (go_simp; rfl)); intro ge hg w1 hbox hb; have n0_ := Aside0.mk (below_step (kB0 HB) hb); have Bge := Aside0.mk hbox; clear HB; have HB := n0_; clear n0_ hb hbox hg; have he := blk5 (w := w1) Bge.out) | (go_at_call 6; refine (begins.calls _ ⟨tab_below htab.out (kB0 HB)⟩).mono ?_; rintro e w2 ⟨rfl, hb⟩; have n1_ := Aside0.mk (below_step (kB0 HB) hb); have m1_ := Aside0.mk (blk_below (kb Bge) hb); clear HB Bge he hb; have HB := n1_; have Bge := m1_; clear n1_ m1_; have he := blk5 (w := w2) Bge.out) | (go_at_call 7; refine (rules_Valid.calls nm AF cF fs outs AB cB bs AT cT ts shapeV _ ⟨Kd.C_below hfs.out (kB0 HB)⟩ hsz ⟨Kd.C_below hbs.out (kB0 HB)⟩ ⟨Kd.C_below hts.out (kB0 HB)⟩ ⟨tab_below htab.out (kB0 HB)⟩ hsh r1 r2 r3 HC).mono ?_; rintro e w3 ⟨rfl, hb⟩; have n1_ := Aside0.mk (below_step (kB0 HB) hb); have m1_ := Aside0.mk (blk_below (kb Bge) hb); clear HB Bge he hb; have HB := n1_; have Bge := m1_; clear n1_ m1_; have he := blk5 (w := w3) Bge.out) | (go_at_call 8; refine (rules_Check.calls nm AF cF fs outs AB cB bs AT cT ts shapeV _ ⟨Kd.C_below hfs.out (kB0 HB)⟩ hsz ⟨Kd.C_below hbs.out (kB0 HB)⟩ ⟨Kd.C_below hts.out (kB0 HB)⟩ ⟨tab_below htab.out (kB0 HB)⟩ hsh r1 r2 r3 HC).mono ?_; rintro e w4 ⟨rfl, hb⟩; have n1_ := Aside0.mk (below_step (kB0 HB) hb); have m1_ := Aside0.mk (blk_below (kb Bge) hb); clear HB Bge he hb; have HB := n1_; have Bge := m1_; clear n1_ m1_; have he := blk5 (w := w4) Bge.out))
  go_ret
  exact ⟨rfl, kB0 HB⟩
set_option maxHeartbeats 16000000 in
set_option maxRecDepth 100000 in
theorem whole_right (w : World) (hfs : Aside0 (Kd.C Kd.string w AF fs.length fs)) (hsz : Aside0 (∀ s ∈ fs, s.size ≤ maxLen)) (hbs : Aside0 (Kd.C (Kd.int .i64) w AB bs.length bs)) (hts : Aside0 (Kd.C k39 w AT ts.length ts)) (hxs : Aside0 (Kd.f64.C w AX xs.length xs)) (htab : Aside0 (Tab w))
    (hsh : Aside0 (∀ y ∈ ts, ∃ k, 1 ≤ y.f1.length → trees_Shape.f k y.f0 y.f1 = some ((shapeV y).1, (shapeV y).2))) (HC : Aside0 (checkV shapeV nm fs outs bs ts = (0, 0, 0)))
    (OU : Aside0 (1 ≤ outs ∧ outs ≤ 64)) (BO : Aside0 ((bs.length : Int) = outs)) (htl : Aside0 (ts.length ≤ 5000000000000)) (HS : Aside0 (∀ n : Nat, n < ts.length → ∃ k, trees_Shape.f k (rd_T39 ts (n : Int)).f0 (rd_T39 ts (n : Int)).f1 = some (0, 0)))
    (M : Nat → Nat) (HX : Aside0 (xs.length = fs.length → ∀ n : Nat, n < ts.length → TreeGood (rd_T39 ts (n : Int)) outs xs (M n))) :
    Calls Tryd.prog 3 #[.agg #[.string nm, .slice AF fs.length cF, .int .i64 outs, .slice AB bs.length cB, .slice AT ts.length cT], .slice AX xs.length cX] w fun e w' => e = .returned (.bool true) ∧ Below w.heap.size w w' := by
  have HB := Aside0.mk (Below.refl w.heap.size w)
  go_enter Tryd.func3, Tryd.ntmps3
  go_wp2_with (first | ((with_reducible refine gate_dst (N := 2) rfl ?_); refine box_event ?hg (N := 2) ?hd (cs := #[.string nm, .slice AF fs.length cF, .int .i64 outs, .slice AB bs.length cB, .slice AT ts.length cT]) (t := 26) ?hr ?_; (case hd => rfl); (case hg => rfl); (case hr => first | (go_simp; done) | (go_simp; rfl)); intro ge hg w1 hbox hb; have n0_ := Aside0.mk (below_step (kB0 HB) hb); have Bge := Aside0.mk hbox; clear HB; have HB := n0_; clear n0_ hb hbox hg; have he := blk5 (w := w1) Bge.out) | (go_at_call 6; refine (begins.calls _ ⟨tab_below htab.out (kB0 HB)⟩).mono ?_; rintro e w2 ⟨rfl, hb⟩; have n1_ := Aside0.mk (below_step (kB0 HB) hb); have m1_ := Aside0.mk (blk_below (kb Bge) hb); clear HB Bge he hb; have HB := n1_; have Bge := m1_; clear n1_ m1_; have he := blk5 (w := w2) Bge.out) | (go_at_call 7; refine (rules_Valid.calls nm AF cF fs outs AB cB bs AT cT ts shapeV _ ⟨Kd.C_below hfs.out (kB0 HB)⟩ hsz ⟨Kd.C_below hbs.out (kB0 HB)⟩ ⟨Kd.C_below hts.out (kB0 HB)⟩ ⟨tab_below htab.out (kB0 HB)⟩ hsh 0 0 0 HC).mono ?_; rintro e w3 ⟨rfl, hb⟩; have n1_ := Aside0.mk (below_step (kB0 HB) hb); have m1_ := Aside0.mk (blk_below (kb Bge) hb); clear HB Bge he hb; have HB := n1_; have Bge := m1_; clear n1_ m1_; have he := blk5 (w := w3) Bge.out) | (go_at_call 8; refine (rules_Check.calls nm AF cF fs outs AB cB bs AT cT ts shapeV _ ⟨Kd.C_below hfs.out (kB0 HB)⟩ hsz ⟨Kd.C_below hbs.out (kB0 HB)⟩ ⟨Kd.C_below hts.out (kB0 HB)⟩ ⟨tab_below htab.out (kB0 HB)⟩ hsh 0 0 0 HC).mono ?_; rintro e w4 ⟨rfl, hb⟩; have n1_ := Aside0.mk (below_step (kB0 HB) hb); have m1_ := Aside0.mk (blk_below (kb Bge) hb); clear HB Bge he hb; have HB := n1_; have Bge := m1_; clear n1_ m1_; have he := blk5 (w := w4) Bge.out))
  clear he
  go_loopg [6] (ts.length + 1) (fun kq v6 w' => ∃ (z : Int) (n : Nat), v6 = .int .i64 z ∧ Aside0 (z = n) ∧ Aside0 (n ≤ ts.length) ∧ Aside0 (ts.length - n < kq) ∧ Aside0 (w'.heap[ge]? = some (.cells #[.string nm, .slice AF fs.length cF, .int .i64 outs, .slice AB bs.length cB, .slice AT ts.length cT] 26 (0, 0))) ∧ Aside0 (Below w.heap.size w w'))
  case atStart => exact ⟨0, 0, rfl, ⟨rfl⟩, ⟨Nat.zero_le _⟩, ⟨by omega⟩, ⟨kb Bge⟩, ⟨kB0 HB⟩⟩
  case round =>
    clear HB Bge
    obtain ⟨z, n, rfl, hz, hn, hk, Bge, HB⟩ := hrel
    cases gk with
    | zero => exact absurd hk.out (by omega)
    | succ k1 =>
      have hzz := hz.out
      have hnn := hn.out
      have he := blk5 (w := wr) Bge.out
      by_cases hend : n = ts.length
      · have cnd : decide (z < (ts.length : Int)) = false := decide_eq_false (by omega)
        clear hzz hnn hend
        by_cases hxl : xs.length = fs.length
        · have XL := Aside0.mk hxl
          have HG := Aside0.mk (HX.out hxl)
          have d3 : ((xs.length : Int) != (fs.length : Int)) = false := by simp [hxl]
          have d4 : ((bs.length : Int) == outs) = true := by simp [BO.out]
          clear hxl
          go_wp2_with (first | (go_at_call 10; refine (trees_Score.calls nm AF cF fs outs AB cB bs AT cT ts AX cX xs M _ ⟨Kd.C_below hbs.out (kB0 HB)⟩ ⟨Kd.C_below hts.out (kB0 HB)⟩ ⟨Kd.C_below hxs.out (kB0 HB)⟩ OU.out.1 BO.out (by have := OU.out; have := BO.out; omega) XL.out htl HG).mono ?_; rintro e w6 ⟨AS, cS, rfl, _, _, hb⟩; have n1_ := Aside0.mk (below_step (kB0 HB) hb); have m1_ := Aside0.mk (blk_below (kb Bge) hb); clear HB Bge he hb; have HB := n1_; have Bge := m1_; clear n1_ m1_; have he := blk5 (w := w6) Bge.out))
          go_ret
          exact ⟨rfl, kB0 HB⟩
        · have XL := Aside0.mk hxl
          have d3 : ((xs.length : Int) != (fs.length : Int)) = true := by simp; omega
          clear hxl
          go_wp2_with (first | (go_at_call 10; refine (trees_Score.bad nm AF cF fs outs AB cB bs AT cT ts AX cX xs _ OU.out.1 BO.out XL.out).mono ?_; rintro e w6 ⟨rfl, hb⟩; have n1_ := Aside0.mk (below_step (kB0 HB) hb); have m1_ := Aside0.mk (blk_below (kb Bge) hb); clear HB Bge he hb; have HB := n1_; have Bge := m1_; clear n1_ m1_; have he := blk5 (w := w6) Bge.out))
          go_ret
          exact ⟨rfl, kB0 HB⟩
      · have cnd : decide (z < (ts.length : Int)) = true := decide_eq_true (by omega)
        have p1 : 0 ≤ z := by omega
        have p2 : z < (ts.length : Int) := by omega
        have hlt : n < ts.length := by omega
        obtain ⟨ad, A2, c2, rfl, e0, e1, l2, g2⟩ := at_T39 hts.out z p1 p2
        obtain ⟨k, hks⟩ := HS.out n hlt
        rw [← hzz] at hks
        obtain ⟨y, hy⟩ : ∃ y, y = rd_T39 ts z := ⟨_, rfl⟩
        rw [← hy] at e0 e1 l2 g2 hks
        replace e0 := (HB.out.cell (World.block_lt_of_cell? w _ e0)).trans e0
        replace e1 := (HB.out.cell (World.block_lt_of_cell? w _ e1)).trans e1
        have G2 := Aside0.mk g2
        have L2 := Aside0.mk l2
        have KS := Aside0.mk hks
        have HLT := Aside0.mk hlt
        have XN := Aside0.mk hzz
        replace p1 := eq_true p1
        replace p2 := eq_true p2
        clear hzz hnn hend hlt hy g2 l2 hks
        go_wp2_with (first | (go_at_call 9; refine (trees_Shape.calls k y.f0 A2 c2 y.f1 0 0 _ (Kd.C_below G2.out (kB0 HB)) L2.out KS.out).mono ?_; rintro e w5 ⟨rfl, hb⟩; clear e0 e1; have n1_ := Aside0.mk (below_step (kB0 HB) hb); have m1_ := Aside0.mk (blk_below (kb Bge) hb); clear HB Bge he hb; have HB := n1_; have Bge := m1_; clear n1_ m1_; have he := blk5 (w := w5) Bge.out))
        go_roundg k1
        case measure => have := hk.out; omega
        case rel => exact ⟨_, n + 1, rfl, ⟨by have := XN.out; have := HLT.out; have := htl.out; unfold wrap64; omega⟩, ⟨HLT.out⟩, ⟨by have := hk.out; have := HLT.out; omega⟩, ⟨kb Bge⟩, ⟨kB0 HB⟩⟩
end
end Go.Proofs.YtnnfbnpgghljnaaDoor.FAll
