/-
  order2, median, medianAdjacent, choosePivot at []uint64: where what they answer lies.
-/
import Derived.Test.YtdhiljimmijghaaSp
namespace Go.Proofs.Ytdhiljimmijghaa.FAll
open Go.RowKit Go.Sort Go.Proofs.YtdhiljimmijghaaW.PrintWords Go.Proofs.YtdhiljimmijghaaW.PrintLast Go.Proofs.YtdhiljimmijghaaW.PrintMore
set_option linter.unusedVariables false
set_option linter.unusedSimpArgs false
theorem blk_one {w : World} {g : Nat} {v : Value} {t : TypeId} (h : w.heap[g]? = some (.cells #[v] t (0, 0))) : w.cell? ⟨g, 0, none⟩ = some v ∧ w.frozen? ⟨g, 0, none⟩ = false := ⟨(blk_cell h 0).trans rfl, blk_frozen h 0⟩
/-- From w0 on nothing has turned but the counter's box; the row stands as it did. -/
structure Piv (w0 : World) (g : Nat) (tl : List Value) (d : Array Int) (gs : Nat) (w : World) : Prop where
  row : w.heap[g]? = some (.cells ((d.toList.map (Value.int .u64)) ++ tl).toArray 23 (0, 0))
  box : ∃ s : Int, w.heap[gs]? = some (.cells #[.int .i64 s] 3 (0, 0))
  grown : w0.grownBy w (some gs)
theorem Piv.srt {w0 w : World} {g gs : Nat} {tl : List Value} {d : Array Int} (h : Piv w0 g tl d gs w) : Srt w g tl d w := .start h.row
theorem Piv.self_ {w0 w : World} {g gs : Nat} {tl : List Value} {d : Array Int} (h : Piv w0 g tl d gs w) : Piv w g tl d gs w := ⟨h.row, h.box, World.grownBy.refl w _⟩
theorem Piv.then_ {w0 w w' : World} {g gs : Nat} {tl : List Value} {d : Array Int} (h : Piv w0 g tl d gs w) (h2 : Piv w g tl d gs w') : Piv w0 g tl d gs w' := ⟨h2.row, h2.box, h.grown.trans h2.grown⟩
theorem Piv.below {w0 w w' : World} {g gs : Nat} {tl : List Value} {d : Array Int} (h : Piv w0 g tl d gs w) (hb : Below w.heap.size w w') : Piv w0 g tl d gs w' := by
  obtain ⟨s, hs⟩ := h.box
  exact ⟨blk_below h.row hb, ⟨s, blk_below hs hb⟩, h.grown.trans (grown_of_below hb _)⟩
theorem Piv.put {w0 w : World} {g gs : Nat} {tl : List Value} {d : Array Int} (h : Piv w0 g tl d gs w) (v : Int) : Piv w0 g tl d gs (w.setCell ⟨gs, 0, none⟩ (.int .i64 v)) := by
  obtain ⟨s, hs⟩ := h.box
  have hne : g ≠ gs := fun e => by
    have h1 := h.row
    rw [e, hs] at h1
    injection h1 with h1
    injection h1 with _ h1
    exact absurd h1 (by decide)
  exact ⟨blk_far (p := ⟨gs, 0, none⟩) h.row hne _, ⟨v, blk_put hs 0 (.int .i64 v) rfl⟩, h.grown.trans (grown_set w gs 0 _)⟩
set_option maxHeartbeats 16000000 in
set_option maxRecDepth 100000 in
theorem order264.calls (w : World) (g cap gs : Nat) (tl : List Value) (d : Array Int) (a b : Nat) (az bz : Int) (haz : Aside0 (az = a)) (hbz : Aside0 (bz = b)) (hP : Aside0 (Piv w g tl d gs w)) (hab : Aside0 (a < d.size ∧ b < d.size)) (hsz : Aside0 (d.size ≤ 1152921504606846976)) :
    Calls Try.prog 57 #[.slice (some ⟨g, 0, none⟩) d.size cap, .int .i64 az, .int .i64 bz, .pointer (some ⟨gs, 0, none⟩)] w fun e w' => ∃ x y : Nat, e = .returned (.tuple #[.int .i64 (x : Int), .int .i64 (y : Int)]) ∧ ((x = a ∨ x = b) ∧ (y = a ∨ y = b)) ∧ Piv w g tl d gs w' := by
  have ha_ := haz.out
  have hb_ := hbz.out
  have hl_ := hab.out
  have hs_ := hsz.out
  have P_az := Aside0.mk (⟨by omega, by omega⟩ : az.toNat = a ∧ a < d.size)
  have n1_az := eq_true (show 0 ≤ az by omega)
  have n2_az := eq_true (show az < (d.size : Int) by omega)
  have P_bz := Aside0.mk (⟨by omega, by omega⟩ : bz.toNat = b ∧ b < d.size)
  have n1_bz := eq_true (show 0 ≤ bz by omega)
  have n2_bz := eq_true (show bz < (d.size : Int) by omega)
  clear ha_ hb_ hl_ hs_
  have HD := Sz.mk (rfl : d.size = d.size)
  have SR := Aside0.mk hP.out.srt
  obtain ⟨xa, hxa⟩ : ∃ xa, xa = d[a]! := ⟨_, rfl⟩
  have X_xa := Aside0.mk hxa
  clear hxa
  have C_xa := Aside0.mk (show w.drew.cell? ⟨g, az.toNat, none⟩ = some (.int .u64 xa) by rw [P_az.out.1, X_xa.out]; exact SR.out.drew.cell (a) (by rw [HD.out]; exact P_az.out.2))
  obtain ⟨xb, hxb⟩ : ∃ xb, xb = d[b]! := ⟨_, rfl⟩
  have X_xb := Aside0.mk hxb
  clear hxb
  have C_xb := Aside0.mk (show w.drew.cell? ⟨g, bz.toNat, none⟩ = some (.int .u64 xb) by rw [P_bz.out.1, X_xb.out]; exact SR.out.drew.cell (b) (by rw [HD.out]; exact P_bz.out.2))
  go_enter Try.func57, Try.ntmps57
  obtain ⟨lb, hlb⟩ : ∃ lb, lb = ltInt xb xa := ⟨_, rfl⟩
  have LB := Aside0.mk hlb
  clear hlb
  go_wp2
  refine start_ (n := 9) (S := fun w' => w'.cell? ⟨g, bz.toNat, none⟩ = some (.int .u64 xb) ∧ w'.cell? ⟨g, az.toNat, none⟩ = some (.int .u64 xa)) (ds := []) #[false, false, false, false, false, false, false, false, false] (by kernel_rfl) rfl rfl ⟨C_xb.out, C_xa.out⟩ (fun hHeld => ?_)
  refine pure_ (i := 0) (N := some 10) (v := ?_) (a' := ?_) #[true, false, false, false, false, false, false, false, false] rfl rfl (by kernel_rfl) (fun _ _ _ h => h) (Or.inl ⟨by rfl, ?_⟩) ?_ ?_
  rotate_left
  · intro w'
    go_simp
    with_reducible rfl
  rotate_left
  · simp only [Act.put, List.setIfInBounds_toArray, List.set_cons_zero, List.set_cons_succ, i64_w, i32_w]
    rfl
  refine pure_ (i := 1) (N := some 11) (v := ?_) (a' := ?_) #[true, true, false, false, false, false, false, false, false] rfl rfl (by kernel_rfl) (fun _ _ _ h => h) (Or.inl ⟨by rfl, ?_⟩) ?_ ?_
  rotate_left
  · intro w'
    go_simp
    with_reducible rfl
  rotate_left
  · simp only [Act.put, List.setIfInBounds_toArray, List.set_cons_zero, List.set_cons_succ, i64_w, i32_w]
    rfl
  refine pure_ (i := 2) (N := some 12) (v := ?_) (a' := ?_) #[true, true, true, false, false, false, false, false, false] rfl rfl (by kernel_rfl) (fun _ _ _ h => h) (Or.inl ⟨by rfl, ?_⟩) ?_ ?_
  rotate_left
  · intro w'
    go_simp
    with_reducible rfl
  rotate_left
  · simp only [Act.put, List.setIfInBounds_toArray, List.set_cons_zero, List.set_cons_succ, i64_w, i32_w]
    rfl
  refine pure_ (i := 4) (N := some 14) (v := ?_) (a' := ?_) #[true, true, true, false, true, false, false, false, false] rfl rfl (by kernel_rfl) (fun _ _ _ h => h) (Or.inl ⟨by rfl, ?_⟩) ?_ ?_
  rotate_left
  · intro w'
    go_simp
    with_reducible rfl
  rotate_left
  · simp only [Act.put, List.setIfInBounds_toArray, List.set_cons_zero, List.set_cons_succ, i64_w, i32_w]
    rfl
  refine pure_ (i := 5) (N := some 15) (v := ?_) (a' := ?_) #[true, true, true, false, true, true, false, false, false] rfl rfl (by kernel_rfl) (fun _ _ _ h => h) (Or.inl ⟨by rfl, ?_⟩) ?_ ?_
  rotate_left
  · intro w'
    go_simp
    with_reducible rfl
  rotate_left
  · simp only [Act.put, List.setIfInBounds_toArray, List.set_cons_zero, List.set_cons_succ, i64_w, i32_w]
    rfl
  refine pure_ (i := 6) (N := some 16) (v := ?_) (a' := ?_) #[true, true, true, false, true, true, true, false, false] rfl rfl (by kernel_rfl) (fun _ _ _ h => h) (Or.inl ⟨by rfl, ?_⟩) ?_ ?_
  rotate_left
  · intro w'
    go_simp
    with_reducible rfl
  rotate_left
  · simp only [Act.put, List.setIfInBounds_toArray, List.set_cons_zero, List.set_cons_succ, i64_w, i32_w]
    rfl
  refine take_ (i := 3) (N := some 13) (v := ?_) (a' := ?_) #[true, true, true, true, true, true, true, false, false] rfl rfl (by kernel_rfl) (fun _ _ _ h => h) (Or.inl ⟨by rfl, ?_⟩) hHeld ?_ ?_
  rotate_left
  · rintro w' ⟨s0, s1⟩
    go_simp
    with_reducible rfl
  rotate_left
  · simp only [Act.put, List.setIfInBounds_toArray, List.set_cons_zero, List.set_cons_succ, i64_w, i32_w]
    rfl
  refine take_ (i := 7) (N := some 17) (v := ?_) (a' := ?_) #[true, true, true, true, true, true, true, true, false] rfl rfl (by kernel_rfl) (fun _ _ _ h => h) (Or.inl ⟨by rfl, ?_⟩) hHeld ?_ ?_
  rotate_left
  · rintro w' ⟨s0, s1⟩
    go_simp
    with_reducible rfl
  rotate_left
  · simp only [Act.put, List.setIfInBounds_toArray, List.set_cons_zero, List.set_cons_succ, i64_w, i32_w]
    rfl
  refine one_ (i := 8) (N := some 18) #[true, true, true, true, true, true, true, true, true] rfl rfl (by kernel_rfl) (by decide) (fun K hK => ?_)
  refine goes_ Try.func45 (by kernel_rfl) rfl #[.int .u64 xb, .int .u64 xa] (by rfl) rfl rfl (by simp only [List.map_toArray, List.map_cons, List.map_nil]; rfl) ?_
  with_reducible refine (Less64.as xb xa _ lb ⟨LB.out⟩).mono ?_
  rintro e w4 ⟨rfl, hbq⟩
  refine ⟨_, rfl, ?_⟩
  have mSR_ := Aside0.mk (SR.out.drew.below hbq)
  clear SR
  have SR := mSR_
  clear mSR_
  refine hK.out _ _ ⟨((hbq.cell (World.block_lt_of_cell? _ _ hHeld.1)).trans hHeld.1), ((hbq.cell (World.block_lt_of_cell? _ _ hHeld.2)).trans hHeld.2)⟩ (fun hHeld => ?_)
  clear hK K
  refine norm_ (a' := ?_) ?_ ?_
  rotate_left
  · show Act.put _ (some 18) _ = _
    simp only [Act.put, List.setIfInBounds_toArray, List.set_cons_zero, List.set_cons_succ, i64_w, i32_w]
    rfl
  refine done_ (by kernel_rfl) ?_
  have T_lb := LB
  have P4 := Aside0.mk ((hP.out.below (below_drew (Below.refl _ _))).below hbq)
  clear LB hbq C_xb C_xa
  clear hP SR
  obtain ⟨s, hbx⟩ := P4.out.box
  have hbs := blk_one hbx
  clear hbx
  cases lb
  · go_wp2
    go_ret2
    exact ⟨a, b, by rw [haz.out, hbz.out]; rfl, ⟨.inl rfl, .inr rfl⟩, P4.out⟩
  · go_wp2
    go_ret2
    exact ⟨b, a, by rw [haz.out, hbz.out]; rfl, ⟨.inr rfl, .inl rfl⟩, P4.out.put _⟩
set_option maxHeartbeats 16000000 in
set_option maxRecDepth 100000 in
theorem median64.calls (w : World) (g cap gs : Nat) (tl : List Value) (d : Array Int) (a b c : Nat) (az bz cz : Int) (haz : Aside0 (az = a)) (hbz : Aside0 (bz = b)) (hcz : Aside0 (cz = c)) (hP : Aside0 (Piv w g tl d gs w)) (hab : Aside0 (a < d.size ∧ b < d.size ∧ c < d.size)) (hsz : Aside0 (d.size ≤ 1152921504606846976)) :
    Calls Try.prog 55 #[.slice (some ⟨g, 0, none⟩) d.size cap, .int .i64 az, .int .i64 bz, .int .i64 cz, .pointer (some ⟨gs, 0, none⟩)] w fun e w' => ∃ y : Nat, e = .returned (.int .i64 (y : Int)) ∧ (y = a ∨ y = b ∨ y = c) ∧ Piv w g tl d gs w' := by
  go_enter Try.func55, Try.ntmps55
  go_wp2_with (first | (go_at_call 57; have q_ := P2.out; clear q_; refine (order264.calls _ g cap gs tl d x1 x2 (x1 : Int) (x2 : Int) ⟨rfl⟩ ⟨rfl⟩ ⟨Piv.self_ P2.out⟩ ⟨by have := hab.out; have := X1.out; have := X2.out; omega⟩ hsz).mono ?_; rintro e w3 ⟨x3, y3, rfl, hx, hp⟩; have X3 := Aside0.mk hx; have P3 := Aside0.mk (P2.out.then_ hp); clear hx hp) | (go_at_call 57; have q_ := P1.out; clear q_; refine (order264.calls _ g cap gs tl d y1 c (y1 : Int) cz ⟨rfl⟩ hcz ⟨Piv.self_ P1.out⟩ ⟨by have := hab.out; have := X1.out; omega⟩ hsz).mono ?_; rintro e w2 ⟨x2, y2, rfl, hx, hp⟩; have X2 := Aside0.mk hx; have P2 := Aside0.mk (P1.out.then_ hp); clear hx hp) | (go_at_call 57; have q_ := hP.out; clear q_; refine (order264.calls _ g cap gs tl d a b az bz haz hbz ⟨Piv.self_ hP.out⟩ ⟨by have := hab.out; skip; omega⟩ hsz).mono ?_; rintro e w1 ⟨x1, y1, rfl, hx, hp⟩; have X1 := Aside0.mk hx; have P1 := Aside0.mk (hp); clear hx hp))
  go_ret
  exact ⟨y3, rfl, by have := X1.out; have := X2.out; have := X3.out; omega, P3.out⟩
set_option maxHeartbeats 16000000 in
set_option maxRecDepth 100000 in
theorem medianAdjacent64.calls (w : World) (g cap gs : Nat) (tl : List Value) (d : Array Int) (a : Nat) (az : Int) (haz : Aside0 (az = a)) (hP : Aside0 (Piv w g tl d gs w)) (hab : Aside0 (1 ≤ a ∧ a + 1 < d.size)) (hsz : Aside0 (d.size ≤ 1152921504606846976)) :
    Calls Try.prog 54 #[.slice (some ⟨g, 0, none⟩) d.size cap, .int .i64 az, .pointer (some ⟨gs, 0, none⟩)] w fun e w' => ∃ y : Nat, e = .returned (.int .i64 (y : Int)) ∧ (a - 1 ≤ y ∧ y ≤ a + 1) ∧ Piv w g tl d gs w' := by
  have ha_ := haz.out
  have hb_ := hab.out
  have hs_ := hsz.out
  have w1_ : wrap64 (az - 1) = az - 1 := by unfold wrap64; omega
  have w2_ : wrap64 (az + 1) = az + 1 := by unfold wrap64; omega
  clear ha_ hb_ hs_
  go_enter Try.func54, Try.ntmps54
  go_wp2_with (first | (go_at_call 55; refine (median64.calls _ g cap gs tl d (a - 1) a (a + 1) (az - 1) az (az + 1) ⟨by have := haz.out; have := hab.out; omega⟩ haz ⟨by have := haz.out; omega⟩ hP ⟨by have := hab.out; omega⟩ hsz).mono ?_; rintro e w1 ⟨y1, rfl, hx, hp⟩; have X1 := Aside0.mk hx; have P1 := Aside0.mk hp; clear hx hp))
  go_ret
  exact ⟨y1, rfl, by have := X1.out; have := hab.out; omega, P1.out⟩
end Go.Proofs.Ytdhiljimmijghaa.FAll
