/-
  math/bits.Len at this program by the kit's contract (laid by lay-shelf.mjs, in plain words by lay-plain.mjs); slices.nextPowerOfTwo, (*slices.xorshift).Next: bounds.
-/
import Derived.Shelf.Small.Bits
import Derived.Lib.ItoaNum
import Derived.Test.YtdhiljimmijghaaSm
namespace Go.Proofs
open Go.Shelf
def Try.lays125_ren : Go.Shelf.Ren := ⟨fun | 125 => 33 | 128 => 48 | 129 => 49 | n => n, fun | 46 => 56 | 3 => 3 | 51 => 73 | 53 => 23 | 4 => 4 | 5 => 5 | 9 => 9 | n => n, fun | n => n⟩
theorem Try.lays125 : Go.Proofs.Lays.n125 Try.prog Try.lays125_ren := {
  mixed := by kernel_rfl
  f125 := Try.func33.trans (congrArg some (by kernel_rfl))
  f128 := Try.func48.trans (congrArg some (by kernel_rfl))
  f129 := Try.func49.trans (congrArg some (by kernel_rfl))
  t3 := Try.underlying3
  a3 := Try.isAgg3
  z3 := Try.sizeOf3
  v3 := Try.zeroValue3
  t4 := Try.underlying4
  a4 := Try.isAgg4
  z4 := Try.sizeOf4
  v4 := Try.zeroValue4
  t5 := Try.underlying5
  a5 := Try.isAgg5
  z5 := Try.sizeOf5
  v5 := Try.zeroValue5
  t9 := Try.underlying9
  a9 := Try.isAgg9
  z9 := Try.sizeOf9
  v9 := Try.zeroValue9
  t46 := Try.underlying56
  a46 := Try.isAgg56
  z46 := Try.sizeOf56
  v46 := Try.zeroValue56
  t51 := Try.underlying73
  a51 := Try.isAgg73
  z51 := Try.sizeOf73
  v51 := Try.zeroValue73
  t53 := Try.underlying23
  a53 := Try.isAgg23
  z53 := Try.sizeOf23
  v53 := Try.zeroValue23 }
theorem Try.bits_Len (x : Int) (w : World) (h0 : 0 ≤ x) (h1 : x ≤ 18446744073709551615) :
    Calls Try.prog 33 #[.int .u64 x] w fun e w' => e = .returned (.int .i64 (Lib.bitLen x.toNat)) ∧ w' = w := Any.bits_Len Try.lays125 x w h0 h1
end Go.Proofs
namespace Go.Proofs.Ytdhiljimmijghaa.FAll
open Go.RowKit Go.Sort Go.Proofs.YtdhiljimmijghaaW.PrintWords Go.Proofs.YtdhiljimmijghaaW.PrintLast Go.Proofs.YtdhiljimmijghaaW.PrintMore
set_option linter.unusedVariables false
set_option linter.unusedSimpArgs false
theorem bitLen_two (n : Nat) (h1 : 1 ≤ n) (h2 : n < 2 ^ 63) : ∃ k : Nat, Lib.bitLen n = k ∧ 1 ≤ k ∧ k ≤ 63 ∧ n < 2 ^ k ∧ 2 ^ k ≤ 2 * n := by
  obtain ⟨q1, q2, q3⟩ := Lib.bitLenAux_bounds 64 n (by omega) (by omega)
  have e : 2 ^ Lib.bitLenAux 64 n = 2 * 2 ^ (Lib.bitLenAux 64 n - 1) := by rw [← Nat.pow_succ', Nat.succ_eq_add_one, Nat.sub_add_cancel q1]
  refine ⟨Lib.bitLenAux 64 n, rfl, q1, ?_, q3, by omega⟩
  have h3 : 2 ^ (Lib.bitLenAux 64 n - 1) < 2 ^ 63 := Nat.lt_of_le_of_lt q2 h2
  have h4 := (Nat.pow_lt_pow_iff_right (by decide : 1 < 2)).1 h3
  omega
set_option maxHeartbeats 16000000 in
set_option maxRecDepth 100000 in
theorem nextPow.calls (w : World) (n : Nat) (nz : Int) (hnz : Aside0 (nz = n)) (h1 : Aside0 (1 ≤ n ∧ n ≤ 1152921504606846976)) :
    Calls Try.prog 52 #[.int .i64 nz] w fun e w' => (∃ m : Nat, e = .returned (.int .u64 (m : Int)) ∧ 1 ≤ m ∧ m ≤ 2 * n) ∧ Below w.heap.size w w' := by
  have HB := Aside0.mk (Below.refl w.heap.size w)
  obtain ⟨k, hk, k1, k2, k3, k4⟩ := bitLen_two n h1.out.1 (by have := h1.out.2; omega)
  have hn_ := hnz.out
  have h1_ := h1.out
  have wu_ : IntKind.u64.wrap nz = nz := by rw [IntKind.wrap_u64]; omega
  have K := Aside0.mk hk
  have KK := Aside0.mk (⟨k1, k2, k3, k4⟩ : 1 ≤ k ∧ k ≤ 63 ∧ n < 2 ^ k ∧ 2 ^ k ≤ 2 * n)
  have NT := Aside0.mk (show nz.toNat = n by omega)
  clear hk k1 k2 k3 k4 hn_ h1_
  go_enter Try.func52, Try.ntmps52
  go_wp2_with (first | (go_at_call 33; refine (Try.bits_Len nz _ (by have := hnz.out; omega) (by have := hnz.out; have := h1.out; omega)).mono ?_; rintro e w1 ⟨rfl, rfl⟩; rw [NT.out, K.out]))
  go_ret
  have hp : IntKind.u64.wrap ((2 : Int) ^ min k 64) = ((2 ^ k : Nat) : Int) := by
    have h1_ := KK.out
    have h2_ := h1.out
    rw [Nat.min_eq_left (by omega), IntKind.wrap_u64, Int.natCast_pow]
    have h3 : ((2 ^ k : Nat) : Int) = (2 : Int) ^ k := Int.natCast_pow 2 k
    omega
  exact ⟨⟨2 ^ k, by rw [← hp]; rfl, Nat.one_le_two_pow, KK.out.2.2.2⟩, HB.out⟩
theorem and_le64 (x : Int) (m : Nat) (hm : m < 18446744073709551616) : 0 ≤ bits .and .u64 x (m : Int) ∧ bits .and .u64 x (m : Int) ≤ (m : Int) := by
  unfold bits
  rw [IntKind.wrap_u64]
  have h1 : (BitVec.ofInt 64 x &&& BitVec.ofInt 64 (m : Int)).toNat ≤ m := by
    rw [BitVec.toNat_and]
    refine Nat.le_trans Nat.and_le_right ?_
    rw [BitVec.ofInt_natCast, BitVec.toNat_ofNat]
    exact Nat.mod_le _ _
  have h2 : ((BitVec.ofInt 64 x &&& BitVec.ofInt 64 (m : Int)).toNat : Int) ≤ (m : Int) := by omega
  show 0 ≤ ((BitVec.ofInt 64 x &&& BitVec.ofInt 64 (m : Int)).toNat : Int) % 18446744073709551616 ∧ ((BitVec.ofInt 64 x &&& BitVec.ofInt 64 (m : Int)).toNat : Int) % 18446744073709551616 ≤ (m : Int)
  omega
set_option maxHeartbeats 16000000 in
set_option maxRecDepth 100000 in
theorem xorNext.calls (w : World) (gx : Nat) (v : Int) (B_v : Aside0 (w.heap[gx]? = some (.cells #[.int .u64 v] 75 (0, 0)))) :
    Calls Try.prog 53 #[.pointer (some ⟨gx, 0, none⟩)] w fun e w' => ∃ r v' : Int, e = .returned (.int .u64 r) ∧ w'.heap[gx]? = some (.cells #[.int .u64 v'] 75 (0, 0)) ∧ w.grownBy w' (some gx) := by
  go_enter Try.func53, Try.ntmps53
  have C_v := Aside0.mk (show w.drew.cell? ⟨gx, 0, none⟩ = some (.int .u64 v) from (blk_cell (blk_drew B_v.out) 0).trans rfl)
  have fz_ := blk_frozen B_v.out 0
  go_wp2
  refine start_ (n := 10) (S := fun w' => w'.cell? ⟨gx, 0, none⟩ = some (.int .u64 v)) (ds := [9]) #[false, false, false, false, false, false, false, false, false, false] (by kernel_rfl) rfl rfl (C_v.out) (fun hHeld => ?_)
  refine pure_ (i := 0) (N := some 3) (v := ?_) (a' := ?_) #[true, false, false, false, false, false, false, false, false, false] rfl rfl (by kernel_rfl) (fun _ _ _ h => h) (Or.inl ⟨by rfl, ?_⟩) ?_ ?_
  rotate_left
  · intro w'
    go_simp
    with_reducible rfl
  rotate_left
  · simp only [Act.put, List.setIfInBounds_toArray, List.set_cons_zero, List.set_cons_succ, i64_w, i32_w]
    rfl
  refine pure_ (i := 1) (N := some 4) (v := ?_) (a' := ?_) #[true, true, false, false, false, false, false, false, false, false] rfl rfl (by kernel_rfl) (fun _ _ _ h => h) (Or.inl ⟨by rfl, ?_⟩) ?_ ?_
  rotate_left
  · intro w'
    go_simp
    with_reducible rfl
  rotate_left
  · simp only [Act.put, List.setIfInBounds_toArray, List.set_cons_zero, List.set_cons_succ, i64_w, i32_w]
    rfl
  refine pure_ (i := 3) (N := some 6) (v := ?_) (a' := ?_) #[true, true, false, true, false, false, false, false, false, false] rfl rfl (by kernel_rfl) (fun _ _ _ h => h) (Or.inl ⟨by rfl, ?_⟩) ?_ ?_
  rotate_left
  · intro w'
    go_simp
    with_reducible rfl
  rotate_left
  · simp only [Act.put, List.setIfInBounds_toArray, List.set_cons_zero, List.set_cons_succ, i64_w, i32_w]
    rfl
  refine pure_ (i := 4) (N := some 7) (v := ?_) (a' := ?_) #[true, true, false, true, true, false, false, false, false, false] rfl rfl (by kernel_rfl) (fun _ _ _ h => h) (Or.inl ⟨by rfl, ?_⟩) ?_ ?_
  rotate_left
  · intro w'
    go_simp
    with_reducible rfl
  rotate_left
  · simp only [Act.put, List.setIfInBounds_toArray, List.set_cons_zero, List.set_cons_succ, i64_w, i32_w]
    rfl
  refine take_ (i := 2) (N := some 5) (v := ?_) (a' := ?_) #[true, true, true, true, true, false, false, false, false, false] rfl rfl (by kernel_rfl) (fun _ _ _ h => h) (Or.inl ⟨by rfl, ?_⟩) hHeld ?_ ?_
  rotate_left
  · intro w' s0
    go_simp
    with_reducible rfl
  rotate_left
  · simp only [Act.put, List.setIfInBounds_toArray, List.set_cons_zero, List.set_cons_succ, i64_w, i32_w]
    rfl
  refine take_ (i := 5) (N := some 8) (v := ?_) (a' := ?_) #[true, true, true, true, true, true, false, false, false, false] rfl rfl (by kernel_rfl) (fun _ _ _ h => h) (Or.inl ⟨by rfl, ?_⟩) hHeld ?_ ?_
  rotate_left
  · intro w' s0
    go_simp
    with_reducible rfl
  rotate_left
  · simp only [Act.put, List.setIfInBounds_toArray, List.set_cons_zero, List.set_cons_succ, i64_w, i32_w]
    rfl
  refine pure_ (i := 6) (N := some 9) (v := ?_) (a' := ?_) #[true, true, true, true, true, true, true, false, false, false] rfl rfl (by kernel_rfl) (fun _ _ _ h => h) (Or.inl ⟨by rfl, ?_⟩) ?_ ?_
  rotate_left
  · intro w'
    go_simp
    with_reducible rfl
  rotate_left
  · simp only [Act.put, List.setIfInBounds_toArray, List.set_cons_zero, List.set_cons_succ, i64_w, i32_w]
    rfl
  refine pure_ (i := 7) (N := some 10) (v := ?_) (a' := ?_) #[true, true, true, true, true, true, true, true, false, false] rfl rfl (by kernel_rfl) (fun _ _ _ h => h) (Or.inl ⟨by rfl, ?_⟩) ?_ ?_
  rotate_left
  · intro w'
    go_simp
    with_reducible rfl
  rotate_left
  · simp only [Act.put, List.setIfInBounds_toArray, List.set_cons_zero, List.set_cons_succ, i64_w, i32_w]
    rfl
  refine pure_ (i := 8) (N := some 11) (v := ?_) (a' := ?_) #[true, true, true, true, true, true, true, true, true, false] rfl rfl (by kernel_rfl) (fun _ _ _ h => h) (Or.inl ⟨by rfl, ?_⟩) ?_ ?_
  rotate_left
  · intro w'
    go_simp
    with_reducible rfl
  rotate_left
  · simp only [Act.put, List.setIfInBounds_toArray, List.set_cons_zero, List.set_cons_succ, i64_w, i32_w]
    rfl
  refine last_ (i := 9) (N := none) #[true, true, true, true, true, true, true, true, true, true] rfl rfl (by kernel_rfl) (by decide) (fun K hK => ?_)
  refine skip_ (w1 := ?_) (by rfl) rfl ?_ ?_
  rotate_left
  · go_simp
    rfl
  refine hK.out _ _ ?_
  clear hK K
  refine done_ (by kernel_rfl) ?_
  obtain ⟨v1, h_v1⟩ : ∃ v1 : Int, v1 = bits .xor .u64 v (IntKind.u64.wrap (v * 8192)) := ⟨_, rfl⟩
  rw [← h_v1]
  obtain ⟨w1, h_w1⟩ : ∃ w1, w1 = (w.setCell ⟨gx, 0, none⟩ (.int .u64 v1)).drew := ⟨_, rfl⟩
  rw [← h_w1]
  have B_v1 := Aside0.mk (show w1.heap[gx]? = some (.cells #[.int .u64 v1] 75 (0, 0)) by rw [h_w1]; exact blk_drew (blk_put B_v.out 0 _ rfl))
  have G_w1 := Aside0.mk (show w.grownBy w1 (some gx) by rw [h_w1]; exact (grown_set w gx 0 _).trans (grown_of_below (below_drew (Below.refl _ _)) _))
  clear h_v1 h_w1 C_v fz_
  have C_v1 := Aside0.mk (show w1.drew.cell? ⟨gx, 0, none⟩ = some (.int .u64 v1) from (blk_cell (blk_drew B_v1.out) 0).trans rfl)
  have fz_ := blk_frozen B_v1.out 0
  go_wp2
  refine start_ (n := 10) (S := fun w' => w'.cell? ⟨gx, 0, none⟩ = some (.int .u64 v1)) (ds := [9]) #[false, false, false, false, false, false, false, false, false, false] (by kernel_rfl) rfl rfl (C_v1.out) (fun hHeld => ?_)
  refine pure_ (i := 0) (N := some 12) (v := ?_) (a' := ?_) #[true, false, false, false, false, false, false, false, false, false] rfl rfl (by kernel_rfl) (fun _ _ _ h => h) (Or.inl ⟨by rfl, ?_⟩) ?_ ?_
  rotate_left
  · intro w'
    go_simp
    with_reducible rfl
  rotate_left
  · simp only [Act.put, List.setIfInBounds_toArray, List.set_cons_zero, List.set_cons_succ, i64_w, i32_w]
    rfl
  refine pure_ (i := 1) (N := some 13) (v := ?_) (a' := ?_) #[true, true, false, false, false, false, false, false, false, false] rfl rfl (by kernel_rfl) (fun _ _ _ h => h) (Or.inl ⟨by rfl, ?_⟩) ?_ ?_
  rotate_left
  · intro w'
    go_simp
    with_reducible rfl
  rotate_left
  · simp only [Act.put, List.setIfInBounds_toArray, List.set_cons_zero, List.set_cons_succ, i64_w, i32_w]
    rfl
  refine pure_ (i := 3) (N := some 15) (v := ?_) (a' := ?_) #[true, true, false, true, false, false, false, false, false, false] rfl rfl (by kernel_rfl) (fun _ _ _ h => h) (Or.inl ⟨by rfl, ?_⟩) ?_ ?_
  rotate_left
  · intro w'
    go_simp
    with_reducible rfl
  rotate_left
  · simp only [Act.put, List.setIfInBounds_toArray, List.set_cons_zero, List.set_cons_succ, i64_w, i32_w]
    rfl
  refine pure_ (i := 4) (N := some 16) (v := ?_) (a' := ?_) #[true, true, false, true, true, false, false, false, false, false] rfl rfl (by kernel_rfl) (fun _ _ _ h => h) (Or.inl ⟨by rfl, ?_⟩) ?_ ?_
  rotate_left
  · intro w'
    go_simp
    with_reducible rfl
  rotate_left
  · simp only [Act.put, List.setIfInBounds_toArray, List.set_cons_zero, List.set_cons_succ, i64_w, i32_w]
    rfl
  refine take_ (i := 2) (N := some 14) (v := ?_) (a' := ?_) #[true, true, true, true, true, false, false, false, false, false] rfl rfl (by kernel_rfl) (fun _ _ _ h => h) (Or.inl ⟨by rfl, ?_⟩) hHeld ?_ ?_
  rotate_left
  · intro w' s0
    go_simp
    with_reducible rfl
  rotate_left
  · simp only [Act.put, List.setIfInBounds_toArray, List.set_cons_zero, List.set_cons_succ, i64_w, i32_w]
    rfl
  refine take_ (i := 5) (N := some 17) (v := ?_) (a' := ?_) #[true, true, true, true, true, true, false, false, false, false] rfl rfl (by kernel_rfl) (fun _ _ _ h => h) (Or.inl ⟨by rfl, ?_⟩) hHeld ?_ ?_
  rotate_left
  · intro w' s0
    go_simp
    with_reducible rfl
  rotate_left
  · simp only [Act.put, List.setIfInBounds_toArray, List.set_cons_zero, List.set_cons_succ, i64_w, i32_w]
    rfl
  refine pure_ (i := 6) (N := some 18) (v := ?_) (a' := ?_) #[true, true, true, true, true, true, true, false, false, false] rfl rfl (by kernel_rfl) (fun _ _ _ h => h) (Or.inl ⟨by rfl, ?_⟩) ?_ ?_
  rotate_left
  · intro w'
    go_simp
    with_reducible rfl
  rotate_left
  · simp only [Act.put, List.setIfInBounds_toArray, List.set_cons_zero, List.set_cons_succ, i64_w, i32_w]
    rfl
  refine pure_ (i := 7) (N := some 19) (v := ?_) (a' := ?_) #[true, true, true, true, true, true, true, true, false, false] rfl rfl (by kernel_rfl) (fun _ _ _ h => h) (Or.inl ⟨by rfl, ?_⟩) ?_ ?_
  rotate_left
  · intro w'
    go_simp
    with_reducible rfl
  rotate_left
  · simp only [Act.put, List.setIfInBounds_toArray, List.set_cons_zero, List.set_cons_succ, i64_w, i32_w]
    rfl
  refine pure_ (i := 8) (N := some 20) (v := ?_) (a' := ?_) #[true, true, true, true, true, true, true, true, true, false] rfl rfl (by kernel_rfl) (fun _ _ _ h => h) (Or.inl ⟨by rfl, ?_⟩) ?_ ?_
  rotate_left
  · intro w'
    go_simp
    with_reducible rfl
  rotate_left
  · simp only [Act.put, List.setIfInBounds_toArray, List.set_cons_zero, List.set_cons_succ, i64_w, i32_w]
    rfl
  refine last_ (i := 9) (N := none) #[true, true, true, true, true, true, true, true, true, true] rfl rfl (by kernel_rfl) (by decide) (fun K hK => ?_)
  refine skip_ (w1 := ?_) (by rfl) rfl ?_ ?_
  rotate_left
  · go_simp
    rfl
  refine hK.out _ _ ?_
  clear hK K
  refine done_ (by kernel_rfl) ?_
  obtain ⟨v2, h_v2⟩ : ∃ v2 : Int, v2 = bits .xor .u64 v1 (v1 / 128) := ⟨_, rfl⟩
  rw [← h_v2]
  obtain ⟨w2, h_w2⟩ : ∃ w2, w2 = (w1.setCell ⟨gx, 0, none⟩ (.int .u64 v2)).drew := ⟨_, rfl⟩
  rw [← h_w2]
  have B_v2 := Aside0.mk (show w2.heap[gx]? = some (.cells #[.int .u64 v2] 75 (0, 0)) by rw [h_w2]; exact blk_drew (blk_put B_v1.out 0 _ rfl))
  have G_w2 := Aside0.mk (show w.grownBy w2 (some gx) by rw [h_w2]; exact G_w1.out.trans ((grown_set w1 gx 0 _).trans (grown_of_below (below_drew (Below.refl _ _)) _)))
  clear h_v2 h_w2 C_v1 fz_
  have C_v2 := Aside0.mk (show w2.drew.cell? ⟨gx, 0, none⟩ = some (.int .u64 v2) from (blk_cell (blk_drew B_v2.out) 0).trans rfl)
  have fz_ := blk_frozen B_v2.out 0
  go_wp2
  refine start_ (n := 10) (S := fun w' => w'.cell? ⟨gx, 0, none⟩ = some (.int .u64 v2)) (ds := [9]) #[false, false, false, false, false, false, false, false, false, false] (by kernel_rfl) rfl rfl (C_v2.out) (fun hHeld => ?_)
  refine pure_ (i := 0) (N := some 21) (v := ?_) (a' := ?_) #[true, false, false, false, false, false, false, false, false, false] rfl rfl (by kernel_rfl) (fun _ _ _ h => h) (Or.inl ⟨by rfl, ?_⟩) ?_ ?_
  rotate_left
  · intro w'
    go_simp
    with_reducible rfl
  rotate_left
  · simp only [Act.put, List.setIfInBounds_toArray, List.set_cons_zero, List.set_cons_succ, i64_w, i32_w]
    rfl
  refine pure_ (i := 1) (N := some 22) (v := ?_) (a' := ?_) #[true, true, false, false, false, false, false, false, false, false] rfl rfl (by kernel_rfl) (fun _ _ _ h => h) (Or.inl ⟨by rfl, ?_⟩) ?_ ?_
  rotate_left
  · intro w'
    go_simp
    with_reducible rfl
  rotate_left
  · simp only [Act.put, List.setIfInBounds_toArray, List.set_cons_zero, List.set_cons_succ, i64_w, i32_w]
    rfl
  refine pure_ (i := 3) (N := some 24) (v := ?_) (a' := ?_) #[true, true, false, true, false, false, false, false, false, false] rfl rfl (by kernel_rfl) (fun _ _ _ h => h) (Or.inl ⟨by rfl, ?_⟩) ?_ ?_
  rotate_left
  · intro w'
    go_simp
    with_reducible rfl
  rotate_left
  · simp only [Act.put, List.setIfInBounds_toArray, List.set_cons_zero, List.set_cons_succ, i64_w, i32_w]
    rfl
  refine pure_ (i := 4) (N := some 25) (v := ?_) (a' := ?_) #[true, true, false, true, true, false, false, false, false, false] rfl rfl (by kernel_rfl) (fun _ _ _ h => h) (Or.inl ⟨by rfl, ?_⟩) ?_ ?_
  rotate_left
  · intro w'
    go_simp
    with_reducible rfl
  rotate_left
  · simp only [Act.put, List.setIfInBounds_toArray, List.set_cons_zero, List.set_cons_succ, i64_w, i32_w]
    rfl
  refine take_ (i := 2) (N := some 23) (v := ?_) (a' := ?_) #[true, true, true, true, true, false, false, false, false, false] rfl rfl (by kernel_rfl) (fun _ _ _ h => h) (Or.inl ⟨by rfl, ?_⟩) hHeld ?_ ?_
  rotate_left
  · intro w' s0
    go_simp
    with_reducible rfl
  rotate_left
  · simp only [Act.put, List.setIfInBounds_toArray, List.set_cons_zero, List.set_cons_succ, i64_w, i32_w]
    rfl
  refine take_ (i := 5) (N := some 26) (v := ?_) (a' := ?_) #[true, true, true, true, true, true, false, false, false, false] rfl rfl (by kernel_rfl) (fun _ _ _ h => h) (Or.inl ⟨by rfl, ?_⟩) hHeld ?_ ?_
  rotate_left
  · intro w' s0
    go_simp
    with_reducible rfl
  rotate_left
  · simp only [Act.put, List.setIfInBounds_toArray, List.set_cons_zero, List.set_cons_succ, i64_w, i32_w]
    rfl
  refine pure_ (i := 6) (N := some 27) (v := ?_) (a' := ?_) #[true, true, true, true, true, true, true, false, false, false] rfl rfl (by kernel_rfl) (fun _ _ _ h => h) (Or.inl ⟨by rfl, ?_⟩) ?_ ?_
  rotate_left
  · intro w'
    go_simp
    with_reducible rfl
  rotate_left
  · simp only [Act.put, List.setIfInBounds_toArray, List.set_cons_zero, List.set_cons_succ, i64_w, i32_w]
    rfl
  refine pure_ (i := 7) (N := some 28) (v := ?_) (a' := ?_) #[true, true, true, true, true, true, true, true, false, false] rfl rfl (by kernel_rfl) (fun _ _ _ h => h) (Or.inl ⟨by rfl, ?_⟩) ?_ ?_
  rotate_left
  · intro w'
    go_simp
    with_reducible rfl
  rotate_left
  · simp only [Act.put, List.setIfInBounds_toArray, List.set_cons_zero, List.set_cons_succ, i64_w, i32_w]
    rfl
  refine pure_ (i := 8) (N := some 29) (v := ?_) (a' := ?_) #[true, true, true, true, true, true, true, true, true, false] rfl rfl (by kernel_rfl) (fun _ _ _ h => h) (Or.inl ⟨by rfl, ?_⟩) ?_ ?_
  rotate_left
  · intro w'
    go_simp
    with_reducible rfl
  rotate_left
  · simp only [Act.put, List.setIfInBounds_toArray, List.set_cons_zero, List.set_cons_succ, i64_w, i32_w]
    rfl
  refine last_ (i := 9) (N := none) #[true, true, true, true, true, true, true, true, true, true] rfl rfl (by kernel_rfl) (by decide) (fun K hK => ?_)
  refine skip_ (w1 := ?_) (by rfl) rfl ?_ ?_
  rotate_left
  · go_simp
    rfl
  refine hK.out _ _ ?_
  clear hK K
  refine done_ (by kernel_rfl) ?_
  obtain ⟨v3, h_v3⟩ : ∃ v3 : Int, v3 = bits .xor .u64 v2 (IntKind.u64.wrap (v2 * 131072)) := ⟨_, rfl⟩
  rw [← h_v3]
  obtain ⟨w3, h_w3⟩ : ∃ w3, w3 = (w2.setCell ⟨gx, 0, none⟩ (.int .u64 v3)).drew := ⟨_, rfl⟩
  rw [← h_w3]
  have B_v3 := Aside0.mk (show w3.heap[gx]? = some (.cells #[.int .u64 v3] 75 (0, 0)) by rw [h_w3]; exact blk_drew (blk_put B_v2.out 0 _ rfl))
  have G_w3 := Aside0.mk (show w.grownBy w3 (some gx) by rw [h_w3]; exact G_w2.out.trans ((grown_set w2 gx 0 _).trans (grown_of_below (below_drew (Below.refl _ _)) _)))
  clear h_v3 h_w3 C_v2 fz_
  have c3_ := (blk_cell B_v3.out 0).trans rfl
  go_wp2
  go_ret
  exact ⟨v3, v3, rfl, B_v3.out, G_w3.out⟩
end Go.Proofs.Ytdhiljimmijghaa.FAll
