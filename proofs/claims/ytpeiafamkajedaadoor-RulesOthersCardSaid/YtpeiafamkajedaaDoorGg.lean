/-
  trees.Goes: the side that a number goes to at a node.
-/
import Derived.Test.YtpeiafamkajedaaDoorFAllx0
import Derived.Handy
namespace Go.Proofs.YtpeiafamkajedaaDoor.FAll
open Go.RowKit Go.Proofs.YtpeiafamkajedaaDoorW.PrintWords Go.Proofs.YtpeiafamkajedaaDoorW.PrintLast Go.Proofs.YtpeiafamkajedaaDoorW.PrintMore
attribute [local go_sem] feq_walk fne_walk flt_walk fle_walk fgt_walk fge_walk fint_walk fstore_walk
set_option linter.unusedVariables false
set_option linter.unusedSimpArgs false
/-- Is the number one of the categories? -/
def catsHit (l : List Int) (x : Nat) : Bool := l.any fun c => feq (f64int c) x
theorem catsHit_drop (l : List Int) (x : Nat) (n : Nat) (h : n < l.length) : catsHit (l.drop n) x = (feq (f64int (rd l (n : Int))) x || catsHit (l.drop (n + 1)) x) := by
  unfold catsHit rd
  rw [List.drop_eq_getElem_cons h, List.any_cons, Int.toNat_natCast, List.getD_eq_getElem?_getD, List.getElem?_eq_getElem h]
  rfl
set_option maxHeartbeats 8000000 in
set_option maxRecDepth 100000 in
theorem idxF.calls (l : List Int) (A : Option Addr) (c : Nat) (x : Nat) (gx : Nat) (w : World) (hl : Aside0 (Kd.C (Kd.int .i64) w A l.length l)) (hx : Aside0 (w.heap[gx]? = some (.cells #[.float .f64 x] 62 (0, 0)))) :
    Calls Tryd.prog 84 #[.slice A l.length c, .func (.func 83) #[] #[.pointer (some ⟨gx, 0, none⟩)]] w fun e w' => ∃ z : Int, e = .returned (.int .i64 z) ∧ decide (z ≥ 0) = catsHit l x ∧ Below w.heap.size w w' := by
  have HB := Aside0.mk (Below.refl w.heap.size w)
  have LN := Aside0.mk (show l.length ≤ 9223372036854775807 from (show ReadsRow _ _ _ _ _ _ from hl.out).2.1)
  go_enter Tryd.func84, Tryd.ntmps84
  go_wp2
  go_loopg [8] (l.length + 1) (fun kq v8 w' => ∃ (z : Int) (n : Nat), v8 = .int .i64 z ∧ Aside0 (z = n) ∧ Aside0 (n ≤ l.length) ∧ Aside0 (l.length - n < kq) ∧ Aside0 (catsHit (l.drop n) x = catsHit l x) ∧ Aside0 (Below w.heap.size w w'))
  case atStart => exact ⟨0, 0, rfl, ⟨rfl⟩, ⟨Nat.zero_le _⟩, ⟨by omega⟩, ⟨by rw [List.drop_zero]⟩, ⟨kB0 HB⟩⟩
  case round =>
    clear HB
    obtain ⟨z, n, rfl, hz, hn, hk, hd, HB⟩ := hrel
    cases gk with
    | zero => exact absurd hk.out (by omega)
    | succ k1 =>
      have hzz := hz.out
      have hnn := hn.out
      by_cases hend : n = l.length
      · have cnd : decide (z < (l.length : Int)) = false := decide_eq_false (by omega)
        have HD := Aside0.mk (show catsHit l x = false by rw [← hd.out, hend, List.drop_length]; rfl)
        clear hzz hnn hend
        go_wp2
        go_ret
        exact ⟨-1, rfl, by rw [HD.out]; rfl, kB0 HB⟩
      · have cnd : decide (z < (l.length : Int)) = true := decide_eq_true (by omega)
        have p1 : 0 ≤ z := by omega
        have p2 : z < (l.length : Int) := by omega
        have hlt : n < l.length := by omega
        obtain ⟨ad, rfl, e1⟩ := Kd.at_int hl.out z p1 p2
        replace e1 := (HB.out.cell (World.block_lt_of_cell? w _ e1)).trans e1
        have ex : wr.cell? ⟨gx, 0, none⟩ = some (.float .f64 x) := (blk_cell (blk_below hx.out (kB0 HB)) 0).trans rfl
        have hdd := catsHit_drop l x n hlt
        rw [hd.out, ← hzz] at hdd
        have HLT := Aside0.mk hlt
        have XN := Aside0.mk hzz
        have P1 := Aside0.mk p1
        replace p1 := eq_true p1
        replace p2 := eq_true p2
        cases hq : feq (f64int (rd l z)) x with
        | true =>
          rw [hq, Bool.true_or] at hdd
          have HD := Aside0.mk hdd
          clear hzz hnn hend hlt hdd
          go_wp2
          go_ret
          exact ⟨z, rfl, by rw [HD.out]; exact decide_eq_true P1.out, kB0 HB⟩
        | false =>
          rw [hq, Bool.false_or] at hdd
          have HD := Aside0.mk hdd.symm
          clear hzz hnn hend hlt hdd
          go_wp2
          go_roundg k1
          case measure => have := hk.out; omega
          case rel => exact ⟨_, n + 1, rfl, ⟨by have := XN.out; have := HLT.out; have := LN.out; unfold wrap64; omega⟩, ⟨HLT.out⟩, ⟨by have := hk.out; have := HLT.out; omega⟩, ⟨HD.out⟩, ⟨kB0 HB⟩⟩
set_option maxHeartbeats 8000000 in
set_option maxRecDepth 100000 in
theorem hasF.calls (l : List Int) (A : Option Addr) (c : Nat) (x : Nat) (gx : Nat) (w : World) (hl : Aside0 (Kd.C (Kd.int .i64) w A l.length l)) (hx : Aside0 (w.heap[gx]? = some (.cells #[.float .f64 x] 62 (0, 0)))) (hit : Bool) (HIT : Aside0 (catsHit l x = hit)) :
    Calls Tryd.prog 82 #[.slice A l.length c, .func (.func 83) #[] #[.pointer (some ⟨gx, 0, none⟩)]] w fun e w' => e = .returned (.bool hit) ∧ Below w.heap.size w w' := by
  have HB := Aside0.mk (Below.refl w.heap.size w)
  go_enter Tryd.func82, Tryd.ntmps82
  go_wp2_with (first | (go_at_call 84; refine (idxF.calls l A c x gx _ ⟨Kd.C_below hl.out (kB0 HB)⟩ ⟨blk_below hx.out (kB0 HB)⟩).mono ?_; rintro e w5 ⟨z, rfl, hz, hb⟩; rw [HIT.out] at hz; have hz2 : decide (0 ≤ z) = hit := hz; have n0_ := Aside0.mk (below_step (kB0 HB) hb); clear HB hb hz; have HB := n0_; clear n0_))
  go_ret
  exact ⟨by first | rfl | rw [hz2], kB0 HB⟩
section
variable (a0 a1 a2 : Int) (a3 : Nat) (A4 : Option Addr) (c4 : Nat) (l4 : List Int) (a5 a6 a7 : Int) (x : Nat)
/-- Which side. -/
def goesV : Int := if a0 = 2 then (if feq x x = true then (if fle x a3 = true then 1 else 2) else a5) else if a0 = 3 then (if feq x x = true then (if catsHit l4 x = true then 1 else 2) else a5) else 0
set_option maxHeartbeats 8000000 in
set_option maxRecDepth 100000 in
theorem kind2 (w : World) (c1 : (a0 == 2) = true) :
    Calls Tryd.prog 54 #[.agg #[.int .u8 a0, .int .i64 a1, .int .i64 a2, .float .f64 a3, .slice A4 l4.length c4, .int .u8 a5, .int .i64 a6, .int .i64 a7]] w fun e w' => e = .returned (.iface 113 (.agg #[.float .f64 a3, .int .u8 a5])) ∧ Below w.heap.size w w' := by
  have HB := Aside0.mk (Below.refl w.heap.size w)
  go_enter Tryd.func54, Tryd.ntmps54
  go_wp2_with (first | ((with_reducible refine gate_dst (N := 1) rfl ?_); refine box_event ?hg (N := 1) ?hd (cs := #[.int .u8 a0, .int .i64 a1, .int .i64 a2, .float .f64 a3, .slice A4 l4.length c4, .int .u8 a5, .int .i64 a6, .int .i64 a7]) (t := 65) ?hr ?_; (case hd => rfl); (case hg => rfl); (case hr => first | (go_simp; done) | (go_simp; rfl)); intro gk hg w2 hbox hb; have n0_ := Aside0.mk (below_step (kB0 HB) hb); have Bgk := Aside0.mk hbox; clear HB; have HB := n0_; clear n0_ hb hbox hg; have he := blk8 (w := w2) Bgk.out))
  go_ret
  exact ⟨rfl, kB0 HB⟩
set_option maxHeartbeats 8000000 in
set_option maxRecDepth 100000 in
theorem kind3 (w : World) (c1 : (a0 == 2) = false) (c2 : (a0 == 3) = true) :
    Calls Tryd.prog 54 #[.agg #[.int .u8 a0, .int .i64 a1, .int .i64 a2, .float .f64 a3, .slice A4 l4.length c4, .int .u8 a5, .int .i64 a6, .int .i64 a7]] w fun e w' => e = .returned (.iface 115 (.agg #[.slice A4 l4.length c4, .int .u8 a5])) ∧ Below w.heap.size w w' := by
  have HB := Aside0.mk (Below.refl w.heap.size w)
  go_enter Tryd.func54, Tryd.ntmps54
  go_wp2_with (first | ((with_reducible refine gate_dst (N := 1) rfl ?_); refine box_event ?hg (N := 1) ?hd (cs := #[.int .u8 a0, .int .i64 a1, .int .i64 a2, .float .f64 a3, .slice A4 l4.length c4, .int .u8 a5, .int .i64 a6, .int .i64 a7]) (t := 65) ?hr ?_; (case hd => rfl); (case hg => rfl); (case hr => first | (go_simp; done) | (go_simp; rfl)); intro gk hg w2 hbox hb; have n0_ := Aside0.mk (below_step (kB0 HB) hb); have Bgk := Aside0.mk hbox; clear HB; have HB := n0_; clear n0_ hb hbox hg; have he := blk8 (w := w2) Bgk.out))
  go_ret
  exact ⟨rfl, kB0 HB⟩
set_option maxHeartbeats 8000000 in
set_option maxRecDepth 100000 in
theorem kind1 (w : World) (c1 : (a0 == 2) = false) (c2 : (a0 == 3) = false) :
    Calls Tryd.prog 54 #[.agg #[.int .u8 a0, .int .i64 a1, .int .i64 a2, .float .f64 a3, .slice A4 l4.length c4, .int .u8 a5, .int .i64 a6, .int .i64 a7]] w fun e w' => e = .returned (.iface 117 (.agg #[])) ∧ Below w.heap.size w w' := by
  have HB := Aside0.mk (Below.refl w.heap.size w)
  go_enter Tryd.func54, Tryd.ntmps54
  go_wp2_with (first | ((with_reducible refine gate_dst (N := 1) rfl ?_); refine box_event ?hg (N := 1) ?hd (cs := #[.int .u8 a0, .int .i64 a1, .int .i64 a2, .float .f64 a3, .slice A4 l4.length c4, .int .u8 a5, .int .i64 a6, .int .i64 a7]) (t := 65) ?hr ?_; (case hd => rfl); (case hg => rfl); (case hr => first | (go_simp; done) | (go_simp; rfl)); intro gk hg w2 hbox hb; have n0_ := Aside0.mk (below_step (kB0 HB) hb); have Bgk := Aside0.mk hbox; clear HB; have HB := n0_; clear n0_ hb hbox hg; have he := blk8 (w := w2) Bgk.out))
  go_ret
  exact ⟨rfl, kB0 HB⟩
set_option maxHeartbeats 8000000 in
set_option maxRecDepth 100000 in
theorem goesNum (w : World) (b1 b2 : Bool) (h1 : feq x x = b1) (h2 : fle x a3 = b2) :
    Calls Tryd.prog 80 #[.agg #[.float .f64 a3, .int .u8 a5], .float .f64 x] w fun e w' => e = .returned (.int .u8 (if b1 = true then (if b2 = true then 1 else 2) else a5)) ∧ Below w.heap.size w w' := by
  have HB := Aside0.mk (Below.refl w.heap.size w)
  cases b1 <;> cases b2
  all_goals
    go_enter Tryd.func80, Tryd.ntmps80
    go_wp2_with (first | ((with_reducible refine gate_dst (N := 2) rfl ?_); refine box_event ?hg (N := 2) ?hd (cs := #[.float .f64 a3, .int .u8 a5]) (t := 113) ?hr ?_; (case hd => rfl); (case hg => rfl); (case hr => first | (go_simp; done) | (go_simp; rfl)); intro gm hg w3 hbox hb; have n0_ := Aside0.mk (below_step (kB0 HB) hb); have Bgm := Aside0.mk hbox; clear HB; have HB := n0_; clear n0_ hb hbox hg; have hm := blk2 (w := w3) Bgm.out))
    go_ret
    exact ⟨rfl, kB0 HB⟩
set_option maxHeartbeats 8000000 in
set_option maxRecDepth 100000 in
theorem goesCat (w : World) (H4 : Aside0 (Kd.C (Kd.int .i64) w A4 l4.length l4)) (b1 hit : Bool) (h1 : feq x x = b1) (HIT : Aside0 (catsHit l4 x = hit)) :
    Calls Tryd.prog 81 #[.agg #[.slice A4 l4.length c4, .int .u8 a5], .float .f64 x] w fun e w' => e = .returned (.int .u8 (if b1 = true then (if hit = true then 1 else 2) else a5)) ∧ Below w.heap.size w w' := by
  have HB := Aside0.mk (Below.refl w.heap.size w)
  cases b1 <;> cases hit
  all_goals
    go_enter Tryd.func81, Tryd.ntmps81
    go_wp2_with (first | ((with_reducible refine gate_dst (N := 2) rfl ?_); refine box_event ?hg (N := 2) ?hd (cs := #[.slice A4 l4.length c4, .int .u8 a5]) (t := 115) ?hr ?_; (case hd => rfl); (case hg => rfl); (case hr => first | (go_simp; done) | (go_simp; rfl)); intro gm hg w3 hbox hb; have n0_ := Aside0.mk (below_step (kB0 HB) hb); have Bgm := Aside0.mk hbox; clear HB; have HB := n0_; clear n0_ hb hbox hg; have hm := blk2 (w := w3) Bgm.out) | ((with_reducible refine gate_dst (N := 3) rfl ?_); refine box_event ?hg (N := 3) ?hd (cs := #[.float .f64 x]) (t := 62) ?hr ?_; (case hd => rfl); (case hg => rfl); (case hr => first | (go_simp; done) | (go_simp; rfl)); intro gx hg w4 hbox hb; have n0_ := Aside0.mk (below_step (kB0 HB) hb); have mgm_ := Aside0.mk (blk_below (kb Bgm) hb); clear Bgm; have Bgm := mgm_; clear mgm_; have Bgx := Aside0.mk hbox; clear HB; have HB := n0_; clear n0_ hb hbox hg; have hm := blk2 (w := w4) Bgm.out; have hx := blk1 (w := w4) Bgx.out) | (go_at_call 82; refine (hasF.calls l4 A4 c4 x gx _ ⟨Kd.C_below H4.out (kB0 HB)⟩ ⟨kb Bgx⟩ _ HIT).mono ?_; rintro e w5 ⟨rfl, hb⟩; have n0_ := Aside0.mk (below_step (kB0 HB) hb); clear HB hm hx hb; have HB := n0_; clear n0_))
    go_ret
    exact ⟨rfl, kB0 HB⟩
set_option maxHeartbeats 8000000 in
set_option maxRecDepth 100000 in
theorem goesLeaf (w : World) :
    Calls Tryd.prog 85 #[.agg #[], .float .f64 x] w fun e w' => e = .returned (.int .u8 0) ∧ Below w.heap.size w w' := by
  have HB := Aside0.mk (Below.refl w.heap.size w)
  go_enter Tryd.func85, Tryd.ntmps85
  go_wp2_with (first | ((with_reducible refine gate_dst (N := 2) rfl ?_); refine box_event ?hg (N := 2) ?hd (cs := #[]) (t := 117) ?hr ?_; (case hd => rfl); (case hg => rfl); (case hr => first | (go_simp; done) | (go_simp; rfl)); intro gm hg w3 hbox hb; have n0_ := Aside0.mk (below_step (kB0 HB) hb); have Bgm := Aside0.mk hbox; clear HB; have HB := n0_; clear n0_ hb hbox hg))
  go_ret
  exact ⟨rfl, kB0 HB⟩
set_option maxHeartbeats 8000000 in
set_option maxRecDepth 100000 in
theorem goes2 (w : World) (c1 : (a0 == 2) = true) (s : Int) (hs : Aside0 ((if feq x x = true then (if fle x a3 = true then 1 else 2) else a5) = s)) :
    Calls Tryd.prog 42 #[.agg #[.int .u8 a0, .int .i64 a1, .int .i64 a2, .float .f64 a3, .slice A4 l4.length c4, .int .u8 a5, .int .i64 a6, .int .i64 a7], .float .f64 x] w fun e w' => e = .returned (.int .u8 s) ∧ Below w.heap.size w w' := by
  have HB := Aside0.mk (Below.refl w.heap.size w)
  go_enter Tryd.func42, Tryd.ntmps42
  go_wp2_with (first | ((with_reducible refine gate_dst (N := 2) rfl ?_); refine box_event ?hg (N := 2) ?hd (cs := #[.int .u8 a0, .int .i64 a1, .int .i64 a2, .float .f64 a3, .slice A4 l4.length c4, .int .u8 a5, .int .i64 a6, .int .i64 a7]) (t := 65) ?hr ?_; (case hd => rfl); (case hg => rfl); (case hr => first | (go_simp; done) | (go_simp; rfl)); intro gb hg w1 hbox hb; have n0_ := Aside0.mk (below_step (kB0 HB) hb); have Bgb := Aside0.mk hbox; clear HB; have HB := n0_; clear n0_ hb hbox hg; have he := blk8 (w := w1) Bgb.out) | (go_at_call 54; refine (kind2 a0 a1 a2 a3 A4 c4 l4 a5 a6 a7 _ c1).mono ?_; rintro e w2 ⟨rfl, hb⟩; have n0_ := Aside0.mk (below_step (kB0 HB) hb); clear HB he hb; have HB := n0_; clear n0_))
  refine (goesNum a3 a5 x _ _ _ rfl rfl).mono ?_
  rintro e w3 ⟨rfl, hb⟩
  have n0_ := Aside0.mk (below_step (kB0 HB) hb)
  clear HB hb
  have HB := n0_
  clear n0_
  rw [hs.out]
  go_wp2
  go_ret
  exact ⟨rfl, kB0 HB⟩
set_option maxHeartbeats 8000000 in
set_option maxRecDepth 100000 in
theorem goes3 (w : World) (c1 : (a0 == 2) = false) (c2 : (a0 == 3) = true) (H4 : Aside0 (Kd.C (Kd.int .i64) w A4 l4.length l4)) (s : Int) (hs : Aside0 ((if feq x x = true then (if catsHit l4 x = true then 1 else 2) else a5) = s)) :
    Calls Tryd.prog 42 #[.agg #[.int .u8 a0, .int .i64 a1, .int .i64 a2, .float .f64 a3, .slice A4 l4.length c4, .int .u8 a5, .int .i64 a6, .int .i64 a7], .float .f64 x] w fun e w' => e = .returned (.int .u8 s) ∧ Below w.heap.size w w' := by
  have HB := Aside0.mk (Below.refl w.heap.size w)
  go_enter Tryd.func42, Tryd.ntmps42
  go_wp2_with (first | ((with_reducible refine gate_dst (N := 2) rfl ?_); refine box_event ?hg (N := 2) ?hd (cs := #[.int .u8 a0, .int .i64 a1, .int .i64 a2, .float .f64 a3, .slice A4 l4.length c4, .int .u8 a5, .int .i64 a6, .int .i64 a7]) (t := 65) ?hr ?_; (case hd => rfl); (case hg => rfl); (case hr => first | (go_simp; done) | (go_simp; rfl)); intro gb hg w1 hbox hb; have n0_ := Aside0.mk (below_step (kB0 HB) hb); have Bgb := Aside0.mk hbox; clear HB; have HB := n0_; clear n0_ hb hbox hg; have he := blk8 (w := w1) Bgb.out) | (go_at_call 54; refine (kind3 a0 a1 a2 a3 A4 c4 l4 a5 a6 a7 _ c1 c2).mono ?_; rintro e w2 ⟨rfl, hb⟩; have n0_ := Aside0.mk (below_step (kB0 HB) hb); clear HB he hb; have HB := n0_; clear n0_))
  refine (goesCat A4 c4 l4 a5 x _ ⟨Kd.C_below H4.out (kB0 HB)⟩ _ _ rfl ⟨rfl⟩).mono ?_
  rintro e w3 ⟨rfl, hb⟩
  have n0_ := Aside0.mk (below_step (kB0 HB) hb)
  clear HB hb
  have HB := n0_
  clear n0_
  rw [hs.out]
  go_wp2
  go_ret
  exact ⟨rfl, kB0 HB⟩
set_option maxHeartbeats 8000000 in
set_option maxRecDepth 100000 in
theorem goes1 (w : World) (c1 : (a0 == 2) = false) (c2 : (a0 == 3) = false) :
    Calls Tryd.prog 42 #[.agg #[.int .u8 a0, .int .i64 a1, .int .i64 a2, .float .f64 a3, .slice A4 l4.length c4, .int .u8 a5, .int .i64 a6, .int .i64 a7], .float .f64 x] w fun e w' => e = .returned (.int .u8 0) ∧ Below w.heap.size w w' := by
  have HB := Aside0.mk (Below.refl w.heap.size w)
  go_enter Tryd.func42, Tryd.ntmps42
  go_wp2_with (first | ((with_reducible refine gate_dst (N := 2) rfl ?_); refine box_event ?hg (N := 2) ?hd (cs := #[.int .u8 a0, .int .i64 a1, .int .i64 a2, .float .f64 a3, .slice A4 l4.length c4, .int .u8 a5, .int .i64 a6, .int .i64 a7]) (t := 65) ?hr ?_; (case hd => rfl); (case hg => rfl); (case hr => first | (go_simp; done) | (go_simp; rfl)); intro gb hg w1 hbox hb; have n0_ := Aside0.mk (below_step (kB0 HB) hb); have Bgb := Aside0.mk hbox; clear HB; have HB := n0_; clear n0_ hb hbox hg; have he := blk8 (w := w1) Bgb.out) | (go_at_call 54; refine (kind1 a0 a1 a2 a3 A4 c4 l4 a5 a6 a7 _ c1 c2).mono ?_; rintro e w2 ⟨rfl, hb⟩; have n0_ := Aside0.mk (below_step (kB0 HB) hb); clear HB he hb; have HB := n0_; clear n0_))
  refine (goesLeaf x _).mono ?_
  rintro e w3 ⟨rfl, hb⟩
  have n0_ := Aside0.mk (below_step (kB0 HB) hb)
  clear HB hb
  have HB := n0_
  clear n0_
  go_wp2
  go_ret
  exact ⟨rfl, kB0 HB⟩
theorem trees_Goes.calls (w : World) (H4 : Aside0 (Kd.C (Kd.int .i64) w A4 l4.length l4)) (s : Int) (hs : Aside0 (goesV a0 a3 l4 a5 x = s)) :
    Calls Tryd.prog 42 #[.agg #[.int .u8 a0, .int .i64 a1, .int .i64 a2, .float .f64 a3, .slice A4 l4.length c4, .int .u8 a5, .int .i64 a6, .int .i64 a7], .float .f64 x] w fun e w' => e = .returned (.int .u8 s) ∧ Below w.heap.size w w' := by
  obtain ⟨rfl⟩ := hs
  unfold goesV
  by_cases e2 : a0 = 2
  · rw [if_pos e2]
    exact goes2 a0 a1 a2 a3 A4 c4 l4 a5 a6 a7 x w (beq_iff_eq.mpr e2) _ ⟨rfl⟩
  · rw [if_neg e2]
    by_cases e3 : a0 = 3
    · rw [if_pos e3]
      exact goes3 a0 a1 a2 a3 A4 c4 l4 a5 a6 a7 x w (beq_eq_false_iff_ne.mpr e2) (beq_iff_eq.mpr e3) H4 _ ⟨rfl⟩
    · rw [if_neg e3]
      exact goes1 a0 a1 a2 a3 A4 c4 l4 a5 a6 a7 x w (beq_eq_false_iff_ne.mpr e2) (beq_eq_false_iff_ne.mpr e3)
end
end Go.Proofs.YtpeiafamkajedaaDoor.FAll
