/-
 The comparison of lists.Of's Lists by key, and lists.rising of a row of them.
-/
import Derived.Test.YtfmjgjfbnilpoaaZq
import Derived.Test.YtfmjgjfbnilpoaaJf
import Derived.Test.YtfmjgjfbnilpoaaCg
namespace Go.Proofs.Ytfmjgjfbnilpoaa.FAll
open Go.RowKit Go.Sort YtfmjgjfbnilpoaaW.PrintWords YtfmjgjfbnilpoaaW.PrintLast YtfmjgjfbnilpoaaW.PrintMore
attribute [local go_sem] fstore_walk
set_option linter.unusedVariables false
set_option linter.unusedSimpArgs false
theorem cmp_i64 (x y : Int) (w : World) : Calls Try.prog 50 #[.int .i64 x, .int .i64 y] w fun e w' => e = .returned (.int .i64 (icmp x y)) ∧ w = w' := by
 have hx : (x != x) = false := by simp
 have hy : (y != y) = false := by simp
 rcases Int.lt_trichotomy x y with h | h | h
 ·have hf := Lib.hid (show icmp x y = -1 by unfold icmp; rw [if_pos h])
  go_enter Try.func50, Try.ntmps50
  go_wp2
  go_ret
  exact ⟨congrArg (fun z => Ending.returned (.int .i64 z)) hf.out.symm, rfl⟩
 ·have hf := Lib.hid (show icmp x y = 0 by unfold icmp; rw [if_neg (by omega), if_neg (by omega)])
  have h1 : x ≤ y := by omega
  have h2 : y ≤ x := by omega
  clear h
  go_enter Try.func50, Try.ntmps50
  go_wp2
  go_ret
  exact ⟨congrArg (fun z => Ending.returned (.int .i64 z)) hf.out.symm, rfl⟩
 ·have hf := Lib.hid (show icmp x y = 1 by unfold icmp; rw [if_neg (by omega), if_pos h])
  go_enter Try.func50, Try.ntmps50
  go_wp2
  go_ret
  exact ⟨congrArg (fun z => Ending.returned (.int .i64 z)) hf.out.symm, rfl⟩
/-- An element of the row, and what its lists lie as. -/
structure TkL where
 s : S35
 v1 : Value
 v2 : Value
 v3 : Value
 bound : True
 one : ∀ u ∈ [v1, v2, v3], u.oneCell' = true
instance : Inhabited S35 := ⟨z35⟩
instance : Inhabited TkL := ⟨⟨z35, .slice none 0 0, .slice none 0 0, .slice none 0 0, trivial, by intro u hu; simp at hu; subst hu; rfl⟩⟩
def rcL : RcL TkL where
 e0 := fun x => .int .i64 x.s.f0
 e1 := fun x => x.v1
 e2 := fun x => x.v2
 e3 := fun x => x.v3
 one := by
  intro x u hu
  simp only [List.mem_cons, List.not_mem_nil, or_false] at hu
  rcases hu with rfl | rfl | rfl | rfl <;> first | rfl | exact x.one _ (by simp)
/-- Who comes ahead. -/
def ltL (a b : S35) : Bool := decide (a.f0 < b.f0)
theorem swoL : SWO ltL := ⟨fun x => by unfold ltL; simp, fun x y z => by unfold ltL; simp only [decide_eq_true_eq]; omega, fun x y z => by unfold ltL; simp only [decide_eq_false_iff_not]; omega⟩
theorem toksL {w : World} {base : Nat} {ok : Nat → Prop} : ∀ (xs : List S35) (inner : List Value), Reps (k35.M w base ok) 4 xs inner → (∀ x ∈ xs, True) → ∃ ts : List TkL, ts.map TkL.s = xs ∧ ts.flatMap rcL.cs = inner ∧ ∀ t ∈ ts, (k56.R 56 w base ok t.v1 t.s.f1) ∧ (k56.R 56 w base ok t.v2 t.s.f2) ∧ (k56.R 56 w base ok t.v3 t.s.f3)
 | [], inner, h, _ => ⟨[], rfl, (List.eq_nil_of_length_eq_zero (by rw [h.1]; simp)).symm, fun t ht => absurd ht (List.not_mem_nil)⟩
 | x :: xs, inner, h, hb => by
  obtain ⟨h1, h2⟩ := reps_next h
  obtain ⟨ts, e1, e2, h3⟩ := toksL xs _ h2 (fun y hy => hb y (List.mem_cons_of_mem _ hy))
  obtain ⟨v1, v2, v3, hc, gv1, gv2, gv3⟩ := k35_openM h1
  obtain ⟨Av1, cv1, rfl, _, _⟩ := Kd.R_reads gv1
  obtain ⟨Av2, cv2, rfl, _, _⟩ := Kd.R_reads gv2
  obtain ⟨Av3, cv3, rfl, _, _⟩ := Kd.R_reads gv3
  refine ⟨⟨x, .slice Av1 x.f1.length cv1, .slice Av2 x.f2.length cv2, .slice Av3 x.f3.length cv3, hb x List.mem_cons_self, by intro u hu; simp only [List.mem_cons, List.not_mem_nil, or_false] at hu; rcases hu with rfl | rfl | rfl <;> rfl⟩ :: ts, by rw [List.map_cons, e1], ?_, fun t ht => ?_⟩
  ·rw [List.flatMap_cons, e2]
   exact (congrArg (· ++ inner.drop 4) hc.symm).trans (List.take_append_drop 4 inner)
  ·rcases List.mem_cons.1 ht with rfl | ht
   ·exact ⟨gv1, gv2, gv3⟩
   ·exact h3 t ht
theorem repsL {w : World} {base : Nat} {ok : Nat → Prop} : ∀ ts : List TkL, (∀ t ∈ ts, (k56.R 56 w base ok t.v1 t.s.f1) ∧ (k56.R 56 w base ok t.v2 t.s.f2) ∧ (k56.R 56 w base ok t.v3 t.s.f3)) → Reps (k35.M w base ok) 4 (ts.map TkL.s) (ts.flatMap rcL.cs)
 | [], _ => Reps.none _ _
 | t :: ts, h => by
  have ht := h t List.mem_cons_self
  exact Reps.front (k35_mkM w base ok t.s ht.1 ht.2.1 ht.2.2) rfl (repsL ts fun u hu => h u (List.mem_cons_of_mem _ hu)) rfl
set_option maxRecDepth 100000 in
theorem keyL.calls (x : TkL) (w : World) : Calls Try.prog 29 (#[.agg #[.int .i64 x.s.f0, x.v1, x.v2, x.v3]] ++ #[]) w fun e w' => e = .returned (.int .i64 (x.s.f0)) ∧ Below w.heap.size w w' := by
 show Calls Try.prog 29 #[.agg #[.int .i64 x.s.f0, x.v1, x.v2, x.v3]] w _
 have HB := aS_ (Below.refl w.heap.size w)
 go_enter Try.func29, Try.ntmps29
 go_wp2_with (first | ((with_reducible refine gate_dst (N := 1) rfl ?_); refine box_event ?hg (N := 1) ?hd (cs := #[.int .i64 x.s.f0, x.v1, x.v2, x.v3]) (t := 35) ?hr ?_; (case hd => rfl); (case hg => rfl); (case hr => first | (go_simp; done) | (go_simp; rfl)); intro gx hg w1 hbox hb; have hx_ := blk4 hbox; have n0_ := aS_ (below_step (kB0 HB) hb); clear HB; have HB := n0_; clear n0_ hb hbox hg) | (fail))
 go_ret
 exact ⟨rfl, kB0 HB⟩
set_option maxHeartbeats 4000000 in
set_option maxRecDepth 100000 in
theorem cmpL (kb : Nat) : CmpL rcL kb (.cells #[.func (.func 29) #[] #[]] 78 (0, 0)) (fun a b => ltL a.s b.s) 49 #[.pointer (some ⟨kb, 0, none⟩)] where
 swo := ⟨fun x => swoL.irrefl _, fun x y z => swoL.trans _ _ _, fun x y z => swoL.ntrans _ _ _⟩
 enters := fun args w => enters_of Try.func49 (by kernel_rfl) rfl args w
 calls := fun x y w hk => by
  show Calls Try.prog 49 #[.agg #[.int .i64 x.s.f0, x.v1, x.v2, x.v3], .agg #[.int .i64 y.s.f0, y.v1, y.v2, y.v3], .pointer (some ⟨kb, 0, none⟩)] w _
  have BK := aS_ hk
  have HB := aS_ (Below.refl w.heap.size w)
  clear hk
  go_enter Try.func49, Try.ntmps49
  go_wp2_with (first | ((with_reducible refine gate_dst (N := 3) rfl ?_); refine box_event ?hg (N := 3) ?hd (cs := #[.int .i64 x.s.f0, x.v1, x.v2, x.v3]) (t := 35) ?hr ?_; (case hd => rfl); (case hg => rfl); (case hr => first | (go_simp; done) | (go_simp; rfl)); intro gx hg w1 hbox hb; have n1_ := aS_ (blk_below BK.out hb); have n0_ := aS_ (below_step (kB0 HB) hb); clear HB BK; have HB := n0_; have BK := n1_; have BX := aS_ hbox; clear n0_ n1_ hb hbox hg) | ((with_reducible refine gate_dst (N := 4) rfl ?_); refine box_event ?hg (N := 4) ?hd (cs := #[.int .i64 y.s.f0, y.v1, y.v2, y.v3]) (t := 35) ?hr ?_; (case hd => rfl); (case hg => rfl); (case hr => first | (go_simp; done) | (go_simp; rfl)); intro gy hg w2 hbox hb; have n1_ := aS_ (blk_below BK.out hb); have n0_ := aS_ (below_step (kB0 HB) hb); have n2_ := aS_ (blk_below BX.out hb); clear HB BK BX; have HB := aS_ (below_drew n0_.out); have BK := aS_ (blk_drew n1_.out); have bx_ := blk4 (blk_drew n2_.out); have by_ := blk4 (blk_drew hbox); clear n0_ n1_ n2_ hb hbox hg))
  refine start_ (n := 8) (S := fun w' => w'.cell? ⟨kb, 0, none⟩ = some (.func (.func 29) #[] #[]) ∧ w'.cell? ⟨gx, 0, none⟩ = some (.int .i64 x.s.f0) ∧ w'.cell? ⟨gx, 1, none⟩ = some (x.v1) ∧ w'.cell? ⟨gx, 2, none⟩ = some (x.v2) ∧ w'.cell? ⟨gx, 3, none⟩ = some (x.v3) ∧ w'.cell? ⟨gy, 0, none⟩ = some (.int .i64 y.s.f0) ∧ w'.cell? ⟨gy, 1, none⟩ = some (y.v1) ∧ w'.cell? ⟨gy, 2, none⟩ = some (y.v2) ∧ w'.cell? ⟨gy, 3, none⟩ = some (y.v3)) (ds := []) #[false, false, false, false, false, false, false, false] (by kernel_rfl) rfl rfl ⟨(blk1 BK.out).1, bx_.1.1, bx_.2.1.1, bx_.2.2.1.1, bx_.2.2.2.1, by_.1.1, by_.2.1.1, by_.2.2.1.1, by_.2.2.2.1⟩ (fun hHeld => ?_)
  refine tq_ (v := ?_) (b := ?_) (m := ?_) 0 (some 6) hHeld ?_
  refine tq_ (v := ?_) (b := ?_) (m := ?_) 1 (some 7) hHeld ?_
  refine tq_ (v := ?_) (b := ?_) (m := ?_) 3 (some 9) hHeld ?_
  refine tq_ (v := ?_) (b := ?_) (m := ?_) 4 (some 10) hHeld ?_
  refine oq_ (m := ?_) 2 (some 8) fun K hK => ?_
  refine goesV_ (f := 29) (lb := #[]) (fun args w => enters_of Try.func29 (by kernel_rfl) rfl args w) #[.agg #[.int .i64 x.s.f0, x.v1, x.v2, x.v3]] (by kernel_rfl) rfl (by rfl) (by rfl) (by simp only [List.map_toArray, List.map_cons, List.map_nil]; rfl) ?_
  with_reducible refine (keyL.calls x _).mono ?_
  rintro e w4 ⟨rfl, hbq⟩
  refine ⟨_, rfl, ?_⟩
  have mHB_ := aS_ (below_step HB.out hbq)
  clear HB
  have HB := mHB_
  clear mHB_
  refine hK.out _ _ ⟨(cB_ hbq hHeld.1), (cB_ hbq hHeld.2.1), (cB_ hbq hHeld.2.2.1), (cB_ hbq hHeld.2.2.2.1), (cB_ hbq hHeld.2.2.2.2.1), (cB_ hbq hHeld.2.2.2.2.2.1), (cB_ hbq hHeld.2.2.2.2.2.2.1), (cB_ hbq hHeld.2.2.2.2.2.2.2.1), (cB_ hbq hHeld.2.2.2.2.2.2.2.2)⟩ (fun hHeld => ?_)
  clear hK K
  refine nq_ (b := ?_) (some 8) ?_
  refine oq_ (m := ?_) 5 (some 11) fun K hK => ?_
  refine goesV_ (f := 29) (lb := #[]) (fun args w => enters_of Try.func29 (by kernel_rfl) rfl args w) #[.agg #[.int .i64 y.s.f0, y.v1, y.v2, y.v3]] (by kernel_rfl) rfl (by rfl) (by rfl) (by simp only [List.map_toArray, List.map_cons, List.map_nil]; rfl) ?_
  with_reducible refine (keyL.calls y _).mono ?_
  rintro e w4 ⟨rfl, hbq⟩
  refine ⟨_, rfl, ?_⟩
  have mHB_ := aS_ (below_step HB.out hbq)
  clear HB
  have HB := mHB_
  clear mHB_
  refine hK.out _ _ ⟨(cB_ hbq hHeld.1), (cB_ hbq hHeld.2.1), (cB_ hbq hHeld.2.2.1), (cB_ hbq hHeld.2.2.2.1), (cB_ hbq hHeld.2.2.2.2.1), (cB_ hbq hHeld.2.2.2.2.2.1), (cB_ hbq hHeld.2.2.2.2.2.2.1), (cB_ hbq hHeld.2.2.2.2.2.2.2.1), (cB_ hbq hHeld.2.2.2.2.2.2.2.2)⟩ (fun hHeld => ?_)
  clear hK K
  refine nq_ (b := ?_) (some 11) ?_
  refine oq_ (m := ?_) 6 (some 12) fun K hK => ?_
  refine goes_ Try.func50 (by kernel_rfl) rfl #[.int .i64 (x.s.f0), .int .i64 (y.s.f0)] (by rfl) rfl rfl (by simp only [List.map_toArray, List.map_cons, List.map_nil]; rfl) ?_
  with_reducible refine (cmp_i64 (x.s.f0) (y.s.f0) _).mono ?_
  rintro e w4 ⟨rfl, rfl⟩
  refine ⟨_, rfl, ?_⟩
  refine hK.out _ _ ⟨hHeld.1, hHeld.2.1, hHeld.2.2.1, hHeld.2.2.2.1, hHeld.2.2.2.2.1, hHeld.2.2.2.2.2.1, hHeld.2.2.2.2.2.2.1, hHeld.2.2.2.2.2.2.2.1, hHeld.2.2.2.2.2.2.2.2⟩ (fun hHeld => ?_)
  clear hK K
  refine nq_ (b := ?_) (some 12) ?_
  refine pq_ (v := ?_) (b := ?_) (m := ?_) 7 (some 5) ?_
  refine done_ (by kernel_rfl) ?_
  go_wp2
  go_ret
  refine ⟨⟨_, rfl, ?_⟩, kB0 HB⟩
  show _ = decide (x.s.f0 < y.s.f0)
  unfold icmp
  by_cases h1 : x.s.f0 < y.s.f0
  ·rw [if_pos h1]; simp [h1]
  ·rw [if_neg h1]; by_cases h2 : y.s.f0 < x.s.f0
   ·rw [if_pos h2]; simp [h1]
   ·rw [if_neg h2]; simp [h1]
section
variable {w : World}
set_option maxRecDepth 100000 in
theorem insNoneL.calls (cmpv : Value) (w : World) : Calls Try.prog 72 #[.slice none 0 0, .int .i64 0, .int .i64 0, cmpv] w fun e w' => e = .returned (.tuple #[]) ∧ w = w' := by
 go_enter Try.func72, Try.ntmps72
 go_wp2
 refine wp_loop_rounds 1 ?_
 rw [rounds_succ]
 go_wp2
 go_end0
 exact ⟨rfl, rfl⟩
set_option maxRecDepth 100000 in
theorem stableNoneL.calls (cmpv : Value) (w : World) : Calls Try.prog 63 #[.slice none 0 0, .int .i64 0, cmpv] w fun e w' => e = .returned (.tuple #[]) ∧ w = w' := by
 go_enter Try.func63, Try.ntmps63
 go_wp2
 refine wp_loop_rounds 1 ?_
 rw [rounds_succ]
 go_wp2_with (go_at_call 72; refine (insNoneL.calls cmpv _).mono ?_; rintro e w1 ⟨rfl, rfl⟩)
 refine wp_loop_rounds 1 ?_
 rw [rounds_succ]
 go_wp2
 go_end0
 exact ⟨rfl, rfl⟩
set_option maxRecDepth 100000 in
theorem sortNoneL.calls (cmpv : Value) (w : World) : Calls Try.prog 48 #[.slice none 0 0, cmpv] w fun e w' => e = .returned (.tuple #[]) ∧ w = w' := by
 go_enter Try.func48, Try.ntmps48
 go_wp2_with (first | (go_at_call 63; refine (stableNoneL.calls cmpv _).mono ?_; rintro e w1 ⟨rfl, rfl⟩))
 go_end0
 exact ⟨rfl, rfl⟩
end
/-- The row is sorted, stably, over a function value whose block is the last. -/
theorem sortRL.calls (w : World) (kb base : Nat) (ok : Nat → Prop) (v : Value) (xs : List S35) (hR : Kd.R k35 35 w base ok v xs) (hk : w.heap[kb]? = some (.cells #[.func (.func 29) #[] #[]] 78 (0, 0))) (hb : ∀ x ∈ xs, True) (hsz : xs.length ≤ 1152921504606846976) :
  Calls Try.prog 48 #[v, .func (.func 49) #[] #[.pointer (some ⟨kb, 0, none⟩)]] w fun e w' => ∃ ys : List S35, e = .returned (.tuple #[]) ∧ StEq ltL xs ys ∧ RisesS ltL ys ∧ Kd.R k35 35 w' base ok v ys ∧ w.grownBy w' v.ownBlock := by
 obtain ⟨hok, inner, ⟨hlen, hown⟩, hreps⟩ := hR
 rcases hown with ⟨rfl, h0⟩ | ⟨g, cap, cur, rfl, hbase, hbk, h1, h2, h3, h4⟩
 ·have hx : xs = [] := List.eq_nil_of_length_eq_zero h0
  subst hx
  refine (sortNoneL.calls _ w).mono ?_
  rintro e w' ⟨rfl, rfl⟩
  exact ⟨[], rfl, StEq.refl _, List.Pairwise.nil, Kd.R_nil _ _ _ _ _, World.grownBy.refl _ _⟩
 ·obtain ⟨ts, e1, e2, h5⟩ := toksL xs inner hreps hb
  have hne : kb ≠ g := by
   rintro rfl
   rw [hk] at hbk
   injection hbk with hbk
   injection hbk with _ hbk
   exact absurd hbk (by decide)
  have ecur : cur = (ts.flatMap rcL.cs ++ cur.toList.drop (xs.length * 4)).toArray := by
   rw [← Array.toList_inj, e2, ← h4]
   exact (List.take_append_drop _ _).symm
  have hz : ts.length = xs.length := by rw [← e1, List.length_map]
  have hS : SrL rcL kb (.cells #[.func (.func 29) #[] #[]] 78 (0, 0)) w g (cur.toList.drop (xs.length * 4)) ts.toArray w := .start (by rw [hbk]; exact congrArg (fun c => some (Obj.cells c 35 (0, 0))) ecur) hk hne
  have hc := sortStableFL.calls (cmpL kb) w g cap (cur.toList.drop (xs.length * 4)) ts.toArray ⟨hS⟩ ⟨by rw [List.size_toArray, hz]; exact hsz⟩
  rw [List.size_toArray, hz] at hc
  refine hc.mono ?_
  rintro e w' ⟨rfl, d', ht, hs, hr⟩
  have hz2 : d'.size = xs.length := by rw [ht.size, List.size_toArray, hz]
  have hz3 : d'.toList.length = xs.length := by simpa using hz2
  have hcl : cur.toList.length = cap * 4 := by rw [Array.length_toList]; exact h3
  have hst : StEq (fun a b : TkL => ltL a.s b.s) ts d'.toList := by simpa using ht.st
  have hmem : ∀ t ∈ d'.toList, t ∈ ts := fun t h => (hst.mem (cmpL kb).swo t).1 h
  refine ⟨d'.toList.map TkL.s, rfl, by rw [← e1]; exact hst.map swoL TkL.s, ?_, ?_, hr.grown⟩
  ·have h6 := sorted_list (lt := fun a b : TkL => ltL a.s b.s) (d := d') (by rw [hz2]; exact hs)
   exact List.pairwise_map.2 h6
  ·refine ⟨hok, d'.toList.flatMap rcL.cs, ⟨?_, .inr ⟨g, cap, ((d'.toList.flatMap rcL.cs) ++ cur.toList.drop (xs.length * 4)).toArray, ?_, hbase, hr.row, ?_, h2, ?_, ?_⟩⟩, ?_⟩
   ·rw [flat_len rcL.len, List.length_map]; rfl
   ·rw [List.length_map, hz3]
   ·rw [List.length_map, hz3]; exact h1
   ·rw [List.size_toArray, List.length_append, flat_len rcL.len, hz3, List.length_drop, hcl]
    have : xs.length * 4 ≤ cap * 4 := Nat.mul_le_mul_right _ h1
    show _ = cap * 4
    omega
   ·show List.take _ _ = _
    exact List.take_left' (by rw [flat_len rcL.len, List.length_map]; rfl)
   ·refine repsL d'.toList fun t h => ?_
    have h7 := h5 t (hmem t h)
    have hg := hr.grown
    exact ⟨Kd.R_grown h7.1 hg (fun k hk => hk.2), Kd.R_grown h7.2.1 hg (fun k hk => hk.2), Kd.R_grown h7.2.2 hg (fun k hk => hk.2)⟩
set_option maxHeartbeats 1000000 in
set_option maxRecDepth 100000 in
theorem risingL.calls (w : World) (base : Nat) (ok : Nat → Prop) (v : Value) (xs : List S35) (hR : Aside0 (Kd.R k35 35 w base ok v xs)) (hb : ∀ x ∈ xs, True) (hsz : Aside0 (xs.length ≤ 1152921504606846976)) :
  Calls Try.prog 28 #[v, .func (.func 29) #[] #[]] w fun e w' => ∃ ys : List S35, e = .returned (.tuple #[]) ∧ StEq ltL xs ys ∧ RisesS ltL ys ∧ Kd.R k35 35 w' base ok v ys ∧ w.grownBy w' v.ownBlock := by
 have HB := aS_ hb
 clear hb
 go_enter Try.func28, Try.ntmps28
 go_wp2_with (first | (go_at_call 48; refine (sortRL.calls _ w.heap.size base ok v xs (Kd.R_alloc hR.out _) (blk_new w _) HB.out hsz.out).mono ?_; rintro e w1 ⟨ys, rfl, h1, h2, h3, h4⟩; have S1 := aS_ h1; have S2 := aS_ h2; have S3 := aS_ h3; have S4 := aS_ h4; clear h1 h2 h3 h4))
 go_end0
 exact ⟨ys, rfl, S1.out, S2.out, S3.out, (grown_of_below (below_alloc (Below.refl _ _) _) _).trans S4.out⟩
end Go.Proofs.Ytfmjgjfbnilpoaa.FAll
