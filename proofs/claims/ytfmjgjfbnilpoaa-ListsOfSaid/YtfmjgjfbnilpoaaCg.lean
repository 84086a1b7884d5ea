/-
 The comparison of lists.Of's Cuts by key, and lists.rising of a row of them.
-/
import Derived.Test.YtfmjgjfbnilpoaaZq
import Derived.Test.YtfmjgjfbnilpoaaCf
import Derived.Test.YtfmjgjfbnilpoaaKy
import Derived.Test.YtfmjgjfbnilpoaaFAllx0
import Derived.Test.YtfmjgjfbnilpoaaWd
import Derived.Test.YtfmjgjfbnilpoaaTh
namespace Go.Proofs.Ytfmjgjfbnilpoaa.FAll
open Go.RowKit Go.Sort YtfmjgjfbnilpoaaW.PrintWords YtfmjgjfbnilpoaaW.PrintLast YtfmjgjfbnilpoaaW.PrintMore
attribute [local go_sem] fstore_walk
set_option linter.unusedVariables false
set_option linter.unusedSimpArgs false
theorem eqv_congr {β : Type} {lt : β → β → Bool} (hS : SWO lt) {x y : β} (h : eqv lt x y = true) : eqv lt x = eqv lt y := by
 funext z
 have h1 : lt x y = false := by unfold eqv at h; cases hh : lt x y <;> simp_all
 have h2 : lt y x = false := by unfold eqv at h; cases hh : lt y x <;> simp_all
 have e1 : lt x z = lt y z := by
  cases a : lt x z with
  | false => exact (hS.ntrans _ _ _ h2 a).symm
  | true =>
   cases b : lt y z with
   | true => rfl
   | false => have := hS.ntrans _ _ _ h1 b; rw [a] at this; cases this
 have e2 : lt z x = lt z y := by
  cases a : lt z x with
  | false => exact (hS.ntrans _ _ _ a h1).symm
  | true =>
   cases b : lt z y with
   | true => rfl
   | false => have := hS.ntrans _ _ _ b h2; rw [a] at this; cases this
 unfold eqv
 rw [e1, e2]
theorem StEq.map {α β : Type} [Inhabited α] {lt : β → β → Bool} (hS : SWO lt) (f : α → β) {l l' : List α} (h : StEq (fun a b => lt (f a) (f b)) l l') : StEq lt (l.map f) (l'.map f) := by
 have hS' : SWO (fun a b => lt (f a) (f b)) := ⟨fun x => hS.irrefl _, fun x y z => hS.trans _ _ _, fun x y z => hS.ntrans _ _ _⟩
 intro x
 by_cases hx : ∃ a ∈ l, eqv lt x (f a) = true
 ·obtain ⟨a, _, ha⟩ := hx
  rw [eqv_congr hS ha, List.filter_map, List.filter_map]
  exact congrArg (List.map f) (h a)
 ·have e1 : (l.map f).filter (eqv lt x) = [] := by
   rw [List.filter_eq_nil_iff]
   intro b hb hc
   obtain ⟨a, ha, rfl⟩ := List.mem_map.1 hb
   exact hx ⟨a, ha, hc⟩
  have e2 : (l'.map f).filter (eqv lt x) = [] := by
   rw [List.filter_eq_nil_iff]
   intro b hb hc
   obtain ⟨a, ha, rfl⟩ := List.mem_map.1 hb
   exact hx ⟨a, (h.mem hS' a).1 ha, hc⟩
  rw [e1, e2]
theorem reps_next {α : Type} {R : α → List Value → Prop} {size : Nat} {p : α} {ps : List α} {cs : List Value} (h : Reps R size (p :: ps) cs) : R p (cs.take size) ∧ Reps R size ps (cs.drop size) := by
 refine ⟨by have := h.2 0 p rfl; rwa [Nat.zero_mul, List.drop_zero] at this, by rw [List.length_drop, h.1, List.length_cons, Nat.succ_mul]; omega, fun j q hj => ?_⟩
 have := h.2 (j + 1) q hj
 rwa [Nat.succ_mul, Nat.add_comm, ← List.drop_drop] at this
/-- It rises. -/
abbrev RisesS {α : Type} (lt : α → α → Bool) (ys : List α) : Prop := ys.Pairwise fun a b => lt b a = false
theorem cmp_u64 (x y : Int) (w : World) : Calls Try.prog 46 #[.int .u64 x, .int .u64 y] w fun e w' => e = .returned (.int .i64 (icmp x y)) ∧ w = w' := by
 have hx : (x != x) = false := by simp
 have hy : (y != y) = false := by simp
 rcases Int.lt_trichotomy x y with h | h | h
 ·have hf := Lib.hid (show icmp x y = -1 by unfold icmp; rw [if_pos h])
  go_enter Try.func46, Try.ntmps46
  go_wp2
  go_ret
  exact ⟨congrArg (fun z => Ending.returned (.int .i64 z)) hf.out.symm, rfl⟩
 ·have hf := Lib.hid (show icmp x y = 0 by unfold icmp; rw [if_neg (by omega), if_neg (by omega)])
  have h1 : x ≤ y := by omega
  have h2 : y ≤ x := by omega
  clear h
  go_enter Try.func46, Try.ntmps46
  go_wp2
  go_ret
  exact ⟨congrArg (fun z => Ending.returned (.int .i64 z)) hf.out.symm, rfl⟩
 ·have hf := Lib.hid (show icmp x y = 1 by unfold icmp; rw [if_neg (by omega), if_pos h])
  go_enter Try.func46, Try.ntmps46
  go_wp2
  go_ret
  exact ⟨congrArg (fun z => Ending.returned (.int .i64 z)) hf.out.symm, rfl⟩
/-- An element of the row, and what its lists lie as. -/
structure TkC where
 s : S56
 v1 : Value
 bound : s.f0 < 2 ^ 64
 one : ∀ u ∈ [v1], u.oneCell' = true
instance : Inhabited S56 := ⟨z56⟩
instance : Inhabited TkC := ⟨⟨z56, .slice none 0 0, by decide, by intro u hu; simp at hu; subst hu; rfl⟩⟩
def rcC : RcC TkC where
 e0 := fun x => .float .f64 x.s.f0
 e1 := fun x => x.v1
 e2 := fun x => .int .i64 x.s.f2
 e3 := fun x => .int .i64 x.s.f3
 e4 := fun x => .int .i64 x.s.f4
 one := by
  intro x u hu
  simp only [List.mem_cons, List.not_mem_nil, or_false] at hu
  rcases hu with rfl | rfl | rfl | rfl | rfl <;> first | rfl | exact x.one _ (by simp)
/-- Who comes ahead. -/
def ltC (a b : S56) : Bool := decide (fkey a.f0 < fkey b.f0)
theorem swoC : SWO ltC := ⟨fun x => by unfold ltC; simp, fun x y z => by unfold ltC; simp only [decide_eq_true_eq]; omega, fun x y z => by unfold ltC; simp only [decide_eq_false_iff_not]; omega⟩
theorem toksC {w : World} {base : Nat} {ok : Nat → Prop} : ∀ (xs : List S56) (inner : List Value), Reps (k56.M w base ok) 5 xs inner → (∀ x ∈ xs, x.f0 < 2 ^ 64) → ∃ ts : List TkC, ts.map TkC.s = xs ∧ ts.flatMap rcC.cs = inner ∧ ∀ t ∈ ts, ((Kd.int .i64).R 3 w base ok t.v1 t.s.f1)
 | [], inner, h, _ => ⟨[], rfl, (List.eq_nil_of_length_eq_zero (by rw [h.1]; simp)).symm, fun t ht => absurd ht (List.not_mem_nil)⟩
 | x :: xs, inner, h, hb => by
  obtain ⟨h1, h2⟩ := reps_next h
  obtain ⟨ts, e1, e2, h3⟩ := toksC xs _ h2 (fun y hy => hb y (List.mem_cons_of_mem _ hy))
  obtain ⟨v1, hc, gv1⟩ := k56_openM h1
  obtain ⟨Av1, cv1, rfl, _, _⟩ := Kd.R_reads gv1
  refine ⟨⟨x, .slice Av1 x.f1.length cv1, hb x List.mem_cons_self, by intro u hu; simp only [List.mem_cons, List.not_mem_nil, or_false] at hu; rcases hu with rfl <;> rfl⟩ :: ts, by rw [List.map_cons, e1], ?_, fun t ht => ?_⟩
  ·rw [List.flatMap_cons, e2]
   exact (congrArg (· ++ inner.drop 5) hc.symm).trans (List.take_append_drop 5 inner)
  ·rcases List.mem_cons.1 ht with rfl | ht
   ·exact gv1
   ·exact h3 t ht
theorem repsC {w : World} {base : Nat} {ok : Nat → Prop} : ∀ ts : List TkC, (∀ t ∈ ts, ((Kd.int .i64).R 3 w base ok t.v1 t.s.f1)) → Reps (k56.M w base ok) 5 (ts.map TkC.s) (ts.flatMap rcC.cs)
 | [], _ => Reps.none _ _
 | t :: ts, h => by
  have ht := h t List.mem_cons_self
  exact Reps.front (k56_mkM w base ok t.s ht) rfl (repsC ts fun u hu => h u (List.mem_cons_of_mem _ hu)) rfl
set_option maxRecDepth 100000 in
theorem keyC.calls (x : TkC) (w : World) : Calls Try.prog 26 (#[.agg #[.float .f64 x.s.f0, x.v1, .int .i64 x.s.f2, .int .i64 x.s.f3, .int .i64 x.s.f4]] ++ #[]) w fun e w' => e = .returned (.int .u64 (fkey x.s.f0)) ∧ Below w.heap.size w w' := by
 show Calls Try.prog 26 #[.agg #[.float .f64 x.s.f0, x.v1, .int .i64 x.s.f2, .int .i64 x.s.f3, .int .i64 x.s.f4]] w _
 have HB := aS_ (Below.refl w.heap.size w)
 go_enter Try.func26, Try.ntmps26
 go_wp2_with (first | ((with_reducible refine gate_dst (N := 1) rfl ?_); refine box_event ?hg (N := 1) ?hd (cs := #[.float .f64 x.s.f0, x.v1, .int .i64 x.s.f2, .int .i64 x.s.f3, .int .i64 x.s.f4]) (t := 56) ?hr ?_; (case hd => rfl); (case hg => rfl); (case hr => first | (go_simp; done) | (go_simp; rfl)); intro gx hg w1 hbox hb; have hx_ := blk5 hbox; have n0_ := aS_ (below_step (kB0 HB) hb); clear HB; have HB := n0_; clear n0_ hb hbox hg) | (go_at_call 27; refine (key_any x.s.f0 x.bound _).mono ?_; rintro e w1 ⟨rfl, rfl⟩))
 go_ret
 exact ⟨rfl, kB0 HB⟩
set_option maxHeartbeats 4000000 in
set_option maxRecDepth 100000 in
theorem cmpC (kb : Nat) : CmpC rcC kb (.cells #[.func (.func 26) #[] #[]] 76 (0, 0)) (fun a b => ltC a.s b.s) 45 #[.pointer (some ⟨kb, 0, none⟩)] where
 swo := ⟨fun x => swoC.irrefl _, fun x y z => swoC.trans _ _ _, fun x y z => swoC.ntrans _ _ _⟩
 enters := fun args w => enters_of Try.func45 (by kernel_rfl) rfl args w
 calls := fun x y w hk => by
  show Calls Try.prog 45 #[.agg #[.float .f64 x.s.f0, x.v1, .int .i64 x.s.f2, .int .i64 x.s.f3, .int .i64 x.s.f4], .agg #[.float .f64 y.s.f0, y.v1, .int .i64 y.s.f2, .int .i64 y.s.f3, .int .i64 y.s.f4], .pointer (some ⟨kb, 0, none⟩)] w _
  have BK := aS_ hk
  have HB := aS_ (Below.refl w.heap.size w)
  clear hk
  go_enter Try.func45, Try.ntmps45
  go_wp2_with (first | ((with_reducible refine gate_dst (N := 3) rfl ?_); refine box_event ?hg (N := 3) ?hd (cs := #[.float .f64 x.s.f0, x.v1, .int .i64 x.s.f2, .int .i64 x.s.f3, .int .i64 x.s.f4]) (t := 56) ?hr ?_; (case hd => rfl); (case hg => rfl); (case hr => first | (go_simp; done) | (go_simp; rfl)); intro gx hg w1 hbox hb; have n1_ := aS_ (blk_below BK.out hb); have n0_ := aS_ (below_step (kB0 HB) hb); clear HB BK; have HB := n0_; have BK := n1_; have BX := aS_ hbox; clear n0_ n1_ hb hbox hg) | ((with_reducible refine gate_dst (N := 4) rfl ?_); refine box_event ?hg (N := 4) ?hd (cs := #[.float .f64 y.s.f0, y.v1, .int .i64 y.s.f2, .int .i64 y.s.f3, .int .i64 y.s.f4]) (t := 56) ?hr ?_; (case hd => rfl); (case hg => rfl); (case hr => first | (go_simp; done) | (go_simp; rfl)); intro gy hg w2 hbox hb; have n1_ := aS_ (blk_below BK.out hb); have n0_ := aS_ (below_step (kB0 HB) hb); have n2_ := aS_ (blk_below BX.out hb); clear HB BK BX; have HB := aS_ (below_drew n0_.out); have BK := aS_ (blk_drew n1_.out); have bx_ := blk5 (blk_drew n2_.out); have by_ := blk5 (blk_drew hbox); clear n0_ n1_ n2_ hb hbox hg))
  refine start_ (n := 8) (S := fun w' => w'.cell? ⟨kb, 0, none⟩ = some (.func (.func 26) #[] #[]) ∧ w'.cell? ⟨gx, 0, none⟩ = some (.float .f64 x.s.f0) ∧ w'.cell? ⟨gx, 1, none⟩ = some (x.v1) ∧ w'.cell? ⟨gx, 2, none⟩ = some (.int .i64 x.s.f2) ∧ w'.cell? ⟨gx, 3, none⟩ = some (.int .i64 x.s.f3) ∧ w'.cell? ⟨gx, 4, none⟩ = some (.int .i64 x.s.f4) ∧ w'.cell? ⟨gy, 0, none⟩ = some (.float .f64 y.s.f0) ∧ w'.cell? ⟨gy, 1, none⟩ = some (y.v1) ∧ w'.cell? ⟨gy, 2, none⟩ = some (.int .i64 y.s.f2) ∧ w'.cell? ⟨gy, 3, none⟩ = some (.int .i64 y.s.f3) ∧ w'.cell? ⟨gy, 4, none⟩ = some (.int .i64 y.s.f4)) (ds := []) #[false, false, false, false, false, false, false, false] (by kernel_rfl) rfl rfl ⟨(blk1 BK.out).1, bx_.1.1, bx_.2.1.1, bx_.2.2.1.1, bx_.2.2.2.1.1, bx_.2.2.2.2.1, by_.1.1, by_.2.1.1, by_.2.2.1.1, by_.2.2.2.1.1, by_.2.2.2.2.1⟩ (fun hHeld => ?_)
  refine tq_ (v := ?_) (b := ?_) (m := ?_) 0 (some 6) hHeld ?_
  refine tq_ (v := ?_) (b := ?_) (m := ?_) 1 (some 7) hHeld ?_
  refine tq_ (v := ?_) (b := ?_) (m := ?_) 3 (some 9) hHeld ?_
  refine tq_ (v := ?_) (b := ?_) (m := ?_) 4 (some 10) hHeld ?_
  refine oq_ (m := ?_) 2 (some 8) fun K hK => ?_
  refine goesV_ (f := 26) (lb := #[]) (fun args w => enters_of Try.func26 (by kernel_rfl) rfl args w) #[.agg #[.float .f64 x.s.f0, x.v1, .int .i64 x.s.f2, .int .i64 x.s.f3, .int .i64 x.s.f4]] (by kernel_rfl) rfl (by rfl) (by rfl) (by simp only [List.map_toArray, List.map_cons, List.map_nil]; rfl) ?_
  with_reducible refine (keyC.calls x _).mono ?_
  rintro e w4 ⟨rfl, hbq⟩
  refine ⟨_, rfl, ?_⟩
  have mHB_ := aS_ (below_step HB.out hbq)
  clear HB
  have HB := mHB_
  clear mHB_
  refine hK.out _ _ ⟨(cB_ hbq hHeld.1), (cB_ hbq hHeld.2.1), (cB_ hbq hHeld.2.2.1), (cB_ hbq hHeld.2.2.2.1), (cB_ hbq hHeld.2.2.2.2.1), (cB_ hbq hHeld.2.2.2.2.2.1), (cB_ hbq hHeld.2.2.2.2.2.2.1), (cB_ hbq hHeld.2.2.2.2.2.2.2.1), (cB_ hbq hHeld.2.2.2.2.2.2.2.2.1), (cB_ hbq hHeld.2.2.2.2.2.2.2.2.2.1), (cB_ hbq hHeld.2.2.2.2.2.2.2.2.2.2)⟩ (fun hHeld => ?_)
  clear hK K
  refine nq_ (b := ?_) (some 8) ?_
  refine oq_ (m := ?_) 5 (some 11) fun K hK => ?_
  refine goesV_ (f := 26) (lb := #[]) (fun args w => enters_of Try.func26 (by kernel_rfl) rfl args w) #[.agg #[.float .f64 y.s.f0, y.v1, .int .i64 y.s.f2, .int .i64 y.s.f3, .int .i64 y.s.f4]] (by kernel_rfl) rfl (by rfl) (by rfl) (by simp only [List.map_toArray, List.map_cons, List.map_nil]; rfl) ?_
  with_reducible refine (keyC.calls y _).mono ?_
  rintro e w4 ⟨rfl, hbq⟩
  refine ⟨_, rfl, ?_⟩
  have mHB_ := aS_ (below_step HB.out hbq)
  clear HB
  have HB := mHB_
  clear mHB_
  refine hK.out _ _ ⟨(cB_ hbq hHeld.1), (cB_ hbq hHeld.2.1), (cB_ hbq hHeld.2.2.1), (cB_ hbq hHeld.2.2.2.1), (cB_ hbq hHeld.2.2.2.2.1), (cB_ hbq hHeld.2.2.2.2.2.1), (cB_ hbq hHeld.2.2.2.2.2.2.1), (cB_ hbq hHeld.2.2.2.2.2.2.2.1), (cB_ hbq hHeld.2.2.2.2.2.2.2.2.1), (cB_ hbq hHeld.2.2.2.2.2.2.2.2.2.1), (cB_ hbq hHeld.2.2.2.2.2.2.2.2.2.2)⟩ (fun hHeld => ?_)
  clear hK K
  refine nq_ (b := ?_) (some 11) ?_
  refine oq_ (m := ?_) 6 (some 12) fun K hK => ?_
  refine goes_ Try.func46 (by kernel_rfl) rfl #[.int .u64 (fkey x.s.f0), .int .u64 (fkey y.s.f0)] (by rfl) rfl rfl (by simp only [List.map_toArray, List.map_cons, List.map_nil]; rfl) ?_
  with_reducible refine (cmp_u64 (fkey x.s.f0) (fkey y.s.f0) _).mono ?_
  rintro e w4 ⟨rfl, rfl⟩
  refine ⟨_, rfl, ?_⟩
  refine hK.out _ _ ⟨hHeld.1, hHeld.2.1, hHeld.2.2.1, hHeld.2.2.2.1, hHeld.2.2.2.2.1, hHeld.2.2.2.2.2.1, hHeld.2.2.2.2.2.2.1, hHeld.2.2.2.2.2.2.2.1, hHeld.2.2.2.2.2.2.2.2.1, hHeld.2.2.2.2.2.2.2.2.2.1, hHeld.2.2.2.2.2.2.2.2.2.2⟩ (fun hHeld => ?_)
  clear hK K
  refine nq_ (b := ?_) (some 12) ?_
  refine pq_ (v := ?_) (b := ?_) (m := ?_) 7 (some 5) ?_
  refine done_ (by kernel_rfl) ?_
  go_wp2
  go_ret
  refine ⟨⟨_, rfl, ?_⟩, kB0 HB⟩
  show _ = decide (fkey x.s.f0 < fkey y.s.f0)
  unfold icmp
  by_cases h1 : fkey x.s.f0 < fkey y.s.f0
  ·rw [if_pos h1]; simp [h1]
  ·rw [if_neg h1]; by_cases h2 : fkey y.s.f0 < fkey x.s.f0
   ·rw [if_pos h2]; simp [h1]
   ·rw [if_neg h2]; simp [h1]
section
variable {w : World}
set_option maxRecDepth 100000 in
theorem insNoneC.calls (cmpv : Value) (w : World) : Calls Try.prog 70 #[.slice none 0 0, .int .i64 0, .int .i64 0, cmpv] w fun e w' => e = .returned (.tuple #[]) ∧ w = w' := by
 go_enter Try.func70, Try.ntmps70
 go_wp2
 refine wp_loop_rounds 1 ?_
 rw [rounds_succ]
 go_wp2
 go_end0
 exact ⟨rfl, rfl⟩
set_option maxRecDepth 100000 in
theorem stableNoneC.calls (cmpv : Value) (w : World) : Calls Try.prog 61 #[.slice none 0 0, .int .i64 0, cmpv] w fun e w' => e = .returned (.tuple #[]) ∧ w = w' := by
 go_enter Try.func61, Try.ntmps61
 go_wp2
 refine wp_loop_rounds 1 ?_
 rw [rounds_succ]
 go_wp2_with (go_at_call 70; refine (insNoneC.calls cmpv _).mono ?_; rintro e w1 ⟨rfl, rfl⟩)
 refine wp_loop_rounds 1 ?_
 rw [rounds_succ]
 go_wp2
 go_end0
 exact ⟨rfl, rfl⟩
set_option maxRecDepth 100000 in
theorem sortNoneC.calls (cmpv : Value) (w : World) : Calls Try.prog 44 #[.slice none 0 0, cmpv] w fun e w' => e = .returned (.tuple #[]) ∧ w = w' := by
 go_enter Try.func44, Try.ntmps44
 go_wp2_with (first | (go_at_call 61; refine (stableNoneC.calls cmpv _).mono ?_; rintro e w1 ⟨rfl, rfl⟩))
 go_end0
 exact ⟨rfl, rfl⟩
end
/-- The row is sorted, stably, over a function value whose block is the last. -/
theorem sortRC.calls (w : World) (kb base : Nat) (ok : Nat → Prop) (v : Value) (xs : List S56) (hR : Kd.R k56 56 w base ok v xs) (hk : w.heap[kb]? = some (.cells #[.func (.func 26) #[] #[]] 76 (0, 0))) (hb : ∀ x ∈ xs, x.f0 < 2 ^ 64) (hsz : xs.length ≤ 1152921504606846976) :
  Calls Try.prog 44 #[v, .func (.func 45) #[] #[.pointer (some ⟨kb, 0, none⟩)]] w fun e w' => ∃ ys : List S56, e = .returned (.tuple #[]) ∧ StEq ltC xs ys ∧ RisesS ltC ys ∧ Kd.R k56 56 w' base ok v ys ∧ w.grownBy w' v.ownBlock := by
 obtain ⟨hok, inner, ⟨hlen, hown⟩, hreps⟩ := hR
 rcases hown with ⟨rfl, h0⟩ | ⟨g, cap, cur, rfl, hbase, hbk, h1, h2, h3, h4⟩
 ·have hx : xs = [] := List.eq_nil_of_length_eq_zero h0
  subst hx
  refine (sortNoneC.calls _ w).mono ?_
  rintro e w' ⟨rfl, rfl⟩
  exact ⟨[], rfl, StEq.refl _, List.Pairwise.nil, Kd.R_nil _ _ _ _ _, World.grownBy.refl _ _⟩
 ·obtain ⟨ts, e1, e2, h5⟩ := toksC xs inner hreps hb
  have hne : kb ≠ g := by
   rintro rfl
   rw [hk] at hbk
   injection hbk with hbk
   injection hbk with _ hbk
   exact absurd hbk (by decide)
  have ecur : cur = (ts.flatMap rcC.cs ++ cur.toList.drop (xs.length * 5)).toArray := by
   rw [← Array.toList_inj, e2, ← h4]
   exact (List.take_append_drop _ _).symm
  have hz : ts.length = xs.length := by rw [← e1, List.length_map]
  have hS : SrC rcC kb (.cells #[.func (.func 26) #[] #[]] 76 (0, 0)) w g (cur.toList.drop (xs.length * 5)) ts.toArray w := .start (by rw [hbk]; exact congrArg (fun c => some (Obj.cells c 56 (0, 0))) ecur) hk hne
  have hc := sortStableFC.calls (cmpC kb) w g cap (cur.toList.drop (xs.length * 5)) ts.toArray ⟨hS⟩ ⟨by rw [List.size_toArray, hz]; exact hsz⟩
  rw [List.size_toArray, hz] at hc
  refine hc.mono ?_
  rintro e w' ⟨rfl, d', ht, hs, hr⟩
  have hz2 : d'.size = xs.length := by rw [ht.size, List.size_toArray, hz]
  have hz3 : d'.toList.length = xs.length := by simpa using hz2
  have hcl : cur.toList.length = cap * 5 := by rw [Array.length_toList]; exact h3
  have hst : StEq (fun a b : TkC => ltC a.s b.s) ts d'.toList := by simpa using ht.st
  have hmem : ∀ t ∈ d'.toList, t ∈ ts := fun t h => (hst.mem (cmpC kb).swo t).1 h
  refine ⟨d'.toList.map TkC.s, rfl, by rw [← e1]; exact hst.map swoC TkC.s, ?_, ?_, hr.grown⟩
  ·have h6 := sorted_list (lt := fun a b : TkC => ltC a.s b.s) (d := d') (by rw [hz2]; exact hs)
   exact List.pairwise_map.2 h6
  ·refine ⟨hok, d'.toList.flatMap rcC.cs, ⟨?_, .inr ⟨g, cap, ((d'.toList.flatMap rcC.cs) ++ cur.toList.drop (xs.length * 5)).toArray, ?_, hbase, hr.row, ?_, h2, ?_, ?_⟩⟩, ?_⟩
   ·rw [flat_len rcC.len, List.length_map]; rfl
   ·rw [List.length_map, hz3]
   ·rw [List.length_map, hz3]; exact h1
   ·rw [List.size_toArray, List.length_append, flat_len rcC.len, hz3, List.length_drop, hcl]
    have : xs.length * 5 ≤ cap * 5 := Nat.mul_le_mul_right _ h1
    show _ = cap * 5
    omega
   ·show List.take _ _ = _
    exact List.take_left' (by rw [flat_len rcC.len, List.length_map]; rfl)
   ·refine repsC d'.toList fun t h => ?_
    have h7 := h5 t (hmem t h)
    have hg := hr.grown
    exact Kd.R_grown h7 hg (fun k hk => hk.2)
set_option maxHeartbeats 1000000 in
set_option maxRecDepth 100000 in
theorem risingC.calls (w : World) (base : Nat) (ok : Nat → Prop) (v : Value) (xs : List S56) (hR : Aside0 (Kd.R k56 56 w base ok v xs)) (hb : ∀ x ∈ xs, x.f0 < 2 ^ 64) (hsz : Aside0 (xs.length ≤ 1152921504606846976)) :
  Calls Try.prog 25 #[v, .func (.func 26) #[] #[]] w fun e w' => ∃ ys : List S56, e = .returned (.tuple #[]) ∧ StEq ltC xs ys ∧ RisesS ltC ys ∧ Kd.R k56 56 w' base ok v ys ∧ w.grownBy w' v.ownBlock := by
 have HB := aS_ hb
 clear hb
 go_enter Try.func25, Try.ntmps25
 go_wp2_with (first | (go_at_call 44; refine (sortRC.calls _ w.heap.size base ok v xs (Kd.R_alloc hR.out _) (blk_new w _) HB.out hsz.out).mono ?_; rintro e w1 ⟨ys, rfl, h1, h2, h3, h4⟩; have S1 := aS_ h1; have S2 := aS_ h2; have S3 := aS_ h3; have S4 := aS_ h4; clear h1 h2 h3 h4))
 go_end0
 exact ⟨ys, rfl, S1.out, S2.out, S3.out, (grown_of_below (below_alloc (Below.refl _ _) _) _).trans S4.out⟩
end Go.Proofs.Ytfmjgjfbnilpoaa.FAll
