/-
 slices.insertionSortCmpFunc at structs: the library text computes insertionSort, whatever comparison is handed in.
-/
import Derived.Test.YtfmjgjfbnilpoaaZq
import Derived.Test.YtfmjgjfbnilpoaaJa
namespace Go.Proofs.Ytfmjgjfbnilpoaa.FAll
open Go.RowKit Go.Sort YtfmjgjfbnilpoaaW.PrintWords YtfmjgjfbnilpoaaW.PrintLast YtfmjgjfbnilpoaaW.PrintMore
set_option linter.unusedVariables false
set_option linter.unusedSimpArgs false
set_option maxHeartbeats 16000000 in
set_option maxRecDepth 100000 in
theorem insertionSortFL.calls {α : Type} [Inhabited α] {E : RcL α} {kb : Nat} {ko : Obj} {lt : α → α → Bool} {F : FuncId} {lb : Array Value} (CF : CmpL E kb ko lt F lb) (w : World) (g cap : Nat) (tl : List Value) (d : Array α) (a b : Nat) (az bz : Int) (haz : Aside0 (az = a)) (hbz : Aside0 (bz = b)) (hR : Aside0 (SrL E kb ko w g tl d w)) (hb : Aside0 (b ≤ d.size)) (hab : Aside0 (a ≤ b)) (hsz : Aside0 (d.size ≤ 4611686018427387904)) :
  Calls Try.prog 72 #[.slice (some ⟨g, 0, none⟩) d.size cap, .int .i64 az, .int .i64 bz, .func (.func F) #[] lb] w fun e w' => e = .returned (.tuple #[]) ∧ SrL E kb ko w g tl (insertionSort lt d a b) w' := by
 obtain ⟨nz, hnz⟩ : ∃ nz : Int, nz = ((d.size : Nat) : Int) := ⟨_, rfl⟩
 have HNZ := aS_ hnz
 have ws : wrap64 (az + 1) = az + 1 := by have := haz.out; have := hab.out; have := hb.out; have := hsz.out; unfold wrap64; omega
 clear hnz
 go_enter Try.func72, Try.ntmps72
 go_wp2
 go_loopg [8] (b + 1) (fun kq v8 w' => ∃ (z : Int) (i : Nat) (dc : Array α), v8 = .int .i64 z ∧ Aside0 (z = i) ∧ Aside0 (b - i < kq) ∧ Aside0 (a + 1 ≤ i) ∧ Aside0 (dc.size = d.size) ∧ Aside0 (insOuter lt a b i dc = insertionSort lt d a b) ∧ Aside0 (SrL E kb ko w g tl dc w'))
 case atStart => exact ⟨_, a + 1, d, rfl, ⟨by have := haz.out; omega⟩, ⟨by omega⟩, ⟨Nat.le_refl _⟩, ⟨rfl⟩, ⟨rfl⟩, hR⟩
 case round =>
  obtain ⟨z, i, dc, rfl, hz, hk, hi, hs, hins, SR⟩ := hrel
  cases gk with
  | zero => exact absurd hk.out (by omega)
  | succ k1 =>
   by_cases hend : i < b
   ·have cnd : decide (z < bz) = true := decide_eq_true (by have := hz.out; have := hbz.out; omega)
    have IB := aS_ hend
    have wz : wrap64 (z + 1) = z + 1 := by have := hz.out; have := hb.out; have := hsz.out; unfold wrap64; omega
    clear hend
    go_wp2
    go_loopg [9] (i + 1) (fun kq v9 w' => ∃ (y : Int) (j : Nat) (dj : Array α), v9 = .int .i64 y ∧ Aside0 (y = j) ∧ Aside0 (j < kq) ∧ Aside0 (j ≤ i) ∧ Aside0 (dj.size = d.size) ∧ Aside0 (insInner lt a j dj = insInner lt a i dc) ∧ Aside0 (SrL E kb ko w g tl dj w'))
    case atStart => exact ⟨_, i, dc, rfl, hz, ⟨by omega⟩, ⟨Nat.le_refl _⟩, hs, ⟨rfl⟩, SR⟩
    case round =>
     clear SR
     obtain ⟨y, j, dj, rfl, hy, hk2, hji, hs2, hin, SR⟩ := hrel
     cases gk with
     | zero => exact absurd hk2.out (by omega)
     | succ k2 =>
      by_cases hja : a < j
      ·have c2 : decide (y > az) = true := decide_eq_true (by have := hy.out; have := haz.out; omega)
       obtain ⟨y1, hy1⟩ : ∃ y1 : Int, y1 = y - 1 := ⟨_, rfl⟩
       have J := aS_ (⟨by have := hy.out; omega, by have := hy.out; have := hji.out; have := IB.out; have := hb.out; omega, by have := hy.out; omega, by have := hy.out; have := hji.out; have := IB.out; have := hb.out; omega⟩ : y1.toNat = j - 1 ∧ j < d.size ∧ y.toNat = j ∧ j - 1 < d.size)
       have wy : wrap64 (y - 1) = y1 := by have := hy.out; have := J.out; have := hsz.out; unfold wrap64; omega
       have p1 := eq_true (show 0 ≤ y by have := hy.out; omega)
       have p2 := eq_true (show y < (d.size : Int) by have := hy.out; have := J.out; omega)
       have p3 := eq_true (show 0 ≤ y1 by have := hy.out; omega)
       have p4 := eq_true (show y1 < (d.size : Int) by have := hy.out; have := J.out; omega)
       obtain ⟨x1, hx1⟩ : ∃ x1, x1 = dj[j]! := ⟨_, rfl⟩
       obtain ⟨x0, hx0⟩ : ∃ x0, x0 = dj[j - 1]! := ⟨_, rfl⟩
       have X := aS_ (⟨hx1, hx0⟩ : x1 = dj[j]! ∧ x0 = dj[j - 1]!)
       have CX1 := aS_ (show AtL E wr.drew g (y.toNat * 4) x1 by rw [J.out.2.2.1, hx1]; exact SR.out.drew.at_ j (by rw [hs2.out]; exact J.out.2.1))
       have CX0 := aS_ (show AtL E wr.drew g (y1.toNat * 4) x0 by rw [J.out.1, hx0]; exact SR.out.drew.at_ (j - 1) (by rw [hs2.out]; exact J.out.2.2.2))
       have JA := aS_ hja
       have Y1 := aS_ hy1
       clear hx1 hx0 hy1 hja
       go_wp2
       refine start_ (n := 17) (S := fun w' => AtL E w' g (y.toNat * 4) x1 ∧ AtL E w' g (y1.toNat * 4) x0) (ds := []) #[false, false, false, false, false, false, false, false, false, false, false, false, false, false, false, false, false] (by kernel_rfl) rfl rfl ⟨CX1.out, CX0.out⟩ (fun hHeld => ?_)
       refine pq_ (v := ?_) (b := ?_) (m := ?_) 0 (some 18) ?_
       refine pq_ (v := ?_) (b := ?_) (m := ?_) 1 (some 19) ?_
       refine pq_ (v := ?_) (b := ?_) (m := ?_) 2 (some 20) ?_
       refine pq_ (v := ?_) (b := ?_) (m := ?_) 3 (some 21) ?_
       refine pq_ (v := ?_) (b := ?_) (m := ?_) 4 (some 22) ?_
       refine pq_ (v := ?_) (b := ?_) (m := ?_) 5 (some 23) ?_
       refine pq_ (v := ?_) (b := ?_) (m := ?_) 6 (some 24) ?_
       refine pq_ (v := ?_) (b := ?_) (m := ?_) 7 (some 25) ?_
       refine pq_ (v := ?_) (b := ?_) (m := ?_) 9 (some 27) ?_
       refine pq_ (v := ?_) (b := ?_) (m := ?_) 10 (some 28) ?_
       refine pq_ (v := ?_) (b := ?_) (m := ?_) 11 (some 29) ?_
       refine pq_ (v := ?_) (b := ?_) (m := ?_) 12 (some 30) ?_
       refine tq_ (v := ?_) (b := ?_) (m := ?_) 8 (some 26) hHeld ?_
       refine tq_ (v := ?_) (b := ?_) (m := ?_) 13 (some 31) hHeld ?_
       refine oq_ (m := ?_) 14 (some 32) fun K hK => ?_
       refine goesV_ (f := F) (lb := lb) CF.enters #[.agg #[E.e0 x1, E.e1 x1, E.e2 x1, E.e3 x1], .agg #[E.e0 x0, E.e1 x0, E.e2 x0, E.e3 x0]] (by kernel_rfl) rfl (by rfl) (by rfl) (by simp only [List.map_toArray, List.map_cons, List.map_nil]; rfl) ?_
       with_reducible refine (CF.calls x1 x0 _ SR.out.drew.held).mono ?_
       rintro e w4 ⟨⟨cv, rfl, hcv⟩, hbq⟩
       have LB := aS_ hcv
       clear hcv
       refine ⟨_, rfl, ?_⟩
       have mSR_ := aS_ (SR.out.drew.below hbq)
       clear SR
       have SR := mSR_
       clear mSR_
       refine hK.out _ _ ⟨(AtL.below hbq hHeld.1), (AtL.below hbq hHeld.2)⟩ (fun hHeld => ?_)
       clear hK K
       refine nq_ (b := ?_) (some 32) ?_
       refine pq_ (v := ?_) (b := ?_) (m := ?_) 15 (some 33) ?_
       refine pq_ (v := ?_) (b := ?_) (m := ?_) 16 (some 34) ?_
       refine done_ (by kernel_rfl) ?_
       by_cases hcv : cv < 0
       ·have kc := decide_eq_true hcv
        have HL := aS_ (LB.out.symm.trans kc)
        clear hcv LB
        simp only [kc]
        have CY1 := aS_ (show AtL E w4.drew g (y.toNat * 4) x1 by rw [J.out.2.2.1, X.out.1]; exact SR.out.drew.at_ j (by rw [hs2.out]; exact J.out.2.1))
        have CY0 := aS_ (show AtL E w4.drew g (y1.toNat * 4) x0 by rw [J.out.1, X.out.2]; exact SR.out.drew.at_ (j - 1) (by rw [hs2.out]; exact J.out.2.2.2))
        go_wp2
        refine start_ (n := 18) (S := fun w' => AtL E w' g (y.toNat * 4) x1 ∧ AtL E w' g (y1.toNat * 4) x0) (ds := [15, 17]) #[false, false, false, false, false, false, false, false, false, false, false, false, false, false, false, false, false, false] (by kernel_rfl) rfl rfl ⟨CY1.out, CY0.out⟩ (fun hHeld => ?_)
        refine pq_ (v := ?_) (b := ?_) (m := ?_) 0 (some 37) ?_
        refine pq_ (v := ?_) (b := ?_) (m := ?_) 1 (some 38) ?_
        refine pq_ (v := ?_) (b := ?_) (m := ?_) 2 (some 39) ?_
        refine pq_ (v := ?_) (b := ?_) (m := ?_) 3 (some 40) ?_
        refine pq_ (v := ?_) (b := ?_) (m := ?_) 4 (some 41) ?_
        refine pq_ (v := ?_) (b := ?_) (m := ?_) 5 (some 42) ?_
        refine pq_ (v := ?_) (b := ?_) (m := ?_) 6 (some 43) ?_
        refine pq_ (v := ?_) (b := ?_) (m := ?_) 7 (some 44) ?_
        refine pq_ (v := ?_) (b := ?_) (m := ?_) 8 (some 45) ?_
        refine pq_ (v := ?_) (b := ?_) (m := ?_) 10 (some 47) ?_
        refine pq_ (v := ?_) (b := ?_) (m := ?_) 11 (some 48) ?_
        refine pq_ (v := ?_) (b := ?_) (m := ?_) 12 (some 49) ?_
        refine tq_ (v := ?_) (b := ?_) (m := ?_) 9 (some 46) hHeld ?_
        refine tq_ (v := ?_) (b := ?_) (m := ?_) 13 (some 50) hHeld ?_
        refine pq_ (v := ?_) (b := ?_) (m := ?_) 14 (some 51) ?_
        refine lq_ (m := ?_) 15 none fun K hK => ?_
        refine SrL.store_ SR.out.drew y.toNat (by rw [J.out.2.2.1, hs2.out]; exact J.out.2.1) x0 (by rfl) rfl rfl (by rfl) (by rfl) ?_
        intro w8_ hs8_
        refine hK.out _ _ ?_
        clear hK K
        refine pq_ (v := ?_) (b := ?_) (m := ?_) 16 (some 52) ?_
        refine lq_ (m := ?_) 17 none fun K hK => ?_
        refine SrL.store_ hs8_ y1.toNat (by rw [Array.size_setIfInBounds, hs2.out, J.out.1]; exact J.out.2.2.2) x1 (by rfl) rfl rfl (by rfl) (by rfl) ?_
        intro w9_ hs9_
        refine hK.out _ _ ?_
        clear hK K
        refine done_ (by kernel_rfl) ?_
        have SW := aS_ (show SrL E kb ko w g tl (swp dj j (j - 1)) w9_ by rw [J.out.2.2.1, J.out.1, X.out.1, X.out.2] at hs9_; exact hs9_)
        clear SR hs8_ hs9_
        go_wp2
        go_roundg k2
        case measure => exact Nat.lt_succ_self _
        case rel => exact ⟨_, j - 1, swp dj j (j - 1), rfl, ⟨by have := hy.out; have := JA.out; have := Y1.out; omega⟩, ⟨by have := hk2.out; have := JA.out; omega⟩, ⟨by have := hji.out; omega⟩, ⟨by rw [swp_size, hs2.out]⟩, ⟨by rw [← insInnerF_go a j dj JA.out (by have := JA.out; omega) (by rw [← X.out.1, ← X.out.2]; exact HL.out)]; exact hin.out⟩, SW⟩
       ·have kc := decide_eq_false hcv
        have IS := aS_ (insInnerF_stop (lt := lt) a j dj (.inr (by rw [← X.out.1, ← X.out.2]; exact LB.out.symm.trans kc)))
        clear hcv LB
        simp only [kc]
        go_wp2
        go_roundg k1
        case measure => exact Nat.lt_succ_self _
        case rel => exact ⟨_, i + 1, dj, rfl, ⟨by have := hz.out; omega⟩, ⟨by have := hk.out; have := IB.out; omega⟩, ⟨by have := hi.out; omega⟩, hs2, ⟨by rw [← IS.out, hin.out, ← insOuterF_go a b i dc IB.out]; exact hins.out⟩, SR⟩
      ·have c2 : decide (y > az) = false := decide_eq_false (by have := hy.out; have := haz.out; omega)
       have JA := aS_ hja
       have IS := aS_ (insInnerF_stop (lt := lt) a j dj (.inl (by omega)))
       clear hja
       go_wp2
       refine start_ (n := 17) (S := fun w' => True) (ds := []) #[false, false, false, false, false, false, false, false, false, false, false, false, false, false, false, false, false] (by kernel_rfl) rfl rfl trivial (fun hHeld => ?_)
       refine pq_ (v := ?_) (b := ?_) (m := ?_) 0 (some 18) ?_
       refine pq_ (v := ?_) (b := ?_) (m := ?_) 1 (some 19) ?_
       refine pq_ (v := ?_) (b := ?_) (m := ?_) 2 (some 20) ?_
       refine pq_ (v := ?_) (b := ?_) (m := ?_) 3 (some 21) ?_
       refine pure_ (i := 4) (N := some 22) (v := undef) (a' := ?_) #[true, true, true, true, true, false, false, false, false, false, false, false, false, false, false, false, false] rfl rfl (by kernel_rfl) (fun _ _ _ h => h) (Or.inr ⟨by rfl, rfl⟩) ?_ ?_
       rotate_left
       ·simp only [Act.put, List.setIfInBounds_toArray, List.set_cons_zero, List.set_cons_succ, i64_w, i32_w]
        rfl
       refine pure_ (i := 5) (N := some 23) (v := undef) (a' := ?_) #[true, true, true, true, true, true, false, false, false, false, false, false, false, false, false, false, false] rfl rfl (by kernel_rfl) (fun _ _ _ h => h) (Or.inr ⟨by rfl, rfl⟩) ?_ ?_
       rotate_left
       ·simp only [Act.put, List.setIfInBounds_toArray, List.set_cons_zero, List.set_cons_succ, i64_w, i32_w]
        rfl
       refine pure_ (i := 6) (N := some 24) (v := undef) (a' := ?_) #[true, true, true, true, true, true, true, false, false, false, false, false, false, false, false, false, false] rfl rfl (by kernel_rfl) (fun _ _ _ h => h) (Or.inr ⟨by rfl, rfl⟩) ?_ ?_
       rotate_left
       ·simp only [Act.put, List.setIfInBounds_toArray, List.set_cons_zero, List.set_cons_succ, i64_w, i32_w]
        rfl
       refine pure_ (i := 7) (N := some 25) (v := undef) (a' := ?_) #[true, true, true, true, true, true, true, true, false, false, false, false, false, false, false, false, false] rfl rfl (by kernel_rfl) (fun _ _ _ h => h) (Or.inr ⟨by rfl, rfl⟩) ?_ ?_
       rotate_left
       ·simp only [Act.put, List.setIfInBounds_toArray, List.set_cons_zero, List.set_cons_succ, i64_w, i32_w]
        rfl
       refine pure_ (i := 8) (N := some 26) (v := undef) (a' := ?_) #[true, true, true, true, true, true, true, true, true, false, false, false, false, false, false, false, false] rfl rfl (by kernel_rfl) (fun _ _ _ h => h) (Or.inr ⟨by rfl, rfl⟩) ?_ ?_
       rotate_left
       ·simp only [Act.put, List.setIfInBounds_toArray, List.set_cons_zero, List.set_cons_succ, i64_w, i32_w]
        rfl
       refine pure_ (i := 9) (N := some 27) (v := undef) (a' := ?_) #[true, true, true, true, true, true, true, true, true, true, false, false, false, false, false, false, false] rfl rfl (by kernel_rfl) (fun _ _ _ h => h) (Or.inr ⟨by rfl, rfl⟩) ?_ ?_
       rotate_left
       ·simp only [Act.put, List.setIfInBounds_toArray, List.set_cons_zero, List.set_cons_succ, i64_w, i32_w]
        rfl
       refine pure_ (i := 10) (N := some 28) (v := undef) (a' := ?_) #[true, true, true, true, true, true, true, true, true, true, true, false, false, false, false, false, false] rfl rfl (by kernel_rfl) (fun _ _ _ h => h) (Or.inr ⟨by rfl, rfl⟩) ?_ ?_
       rotate_left
       ·simp only [Act.put, List.setIfInBounds_toArray, List.set_cons_zero, List.set_cons_succ, i64_w, i32_w]
        rfl
       refine pure_ (i := 11) (N := some 29) (v := undef) (a' := ?_) #[true, true, true, true, true, true, true, true, true, true, true, true, false, false, false, false, false] rfl rfl (by kernel_rfl) (fun _ _ _ h => h) (Or.inr ⟨by rfl, rfl⟩) ?_ ?_
       rotate_left
       ·simp only [Act.put, List.setIfInBounds_toArray, List.set_cons_zero, List.set_cons_succ, i64_w, i32_w]
        rfl
       refine pure_ (i := 12) (N := some 30) (v := undef) (a' := ?_) #[true, true, true, true, true, true, true, true, true, true, true, true, true, false, false, false, false] rfl rfl (by kernel_rfl) (fun _ _ _ h => h) (Or.inr ⟨by rfl, rfl⟩) ?_ ?_
       rotate_left
       ·simp only [Act.put, List.setIfInBounds_toArray, List.set_cons_zero, List.set_cons_succ, i64_w, i32_w]
        rfl
       refine pure_ (i := 13) (N := some 31) (v := undef) (a' := ?_) #[true, true, true, true, true, true, true, true, true, true, true, true, true, true, false, false, false] rfl rfl (by kernel_rfl) (fun _ _ _ h => h) (Or.inr ⟨by rfl, rfl⟩) ?_ ?_
       rotate_left
       ·simp only [Act.put, List.setIfInBounds_toArray, List.set_cons_zero, List.set_cons_succ, i64_w, i32_w]
        rfl
       refine pure_ (i := 14) (N := some 32) (v := undef) (a' := ?_) #[true, true, true, true, true, true, true, true, true, true, true, true, true, true, true, false, false] rfl rfl (by kernel_rfl) (fun _ _ _ h => h) (Or.inr ⟨by rfl, rfl⟩) ?_ ?_
       rotate_left
       ·simp only [Act.put, List.setIfInBounds_toArray, List.set_cons_zero, List.set_cons_succ, i64_w, i32_w]
        rfl
       refine pure_ (i := 15) (N := some 33) (v := undef) (a' := ?_) #[true, true, true, true, true, true, true, true, true, true, true, true, true, true, true, true, false] rfl rfl (by kernel_rfl) (fun _ _ _ h => h) (Or.inr ⟨by rfl, rfl⟩) ?_ ?_
       rotate_left
       ·simp only [Act.put, List.setIfInBounds_toArray, List.set_cons_zero, List.set_cons_succ, i64_w, i32_w]
        rfl
       refine pq_ (v := ?_) (b := ?_) (m := ?_) 16 (some 34) ?_
       refine done_ (by kernel_rfl) ?_
       have SW := aS_ SR.out.drew
       clear SR
       go_wp2
       go_roundg k1
       case measure => exact Nat.lt_succ_self _
       case rel => exact ⟨_, i + 1, dj, rfl, ⟨by have := hz.out; omega⟩, ⟨by have := hk.out; have := IB.out; omega⟩, ⟨by have := hi.out; omega⟩, hs2, ⟨by rw [← IS.out, hin.out, ← insOuterF_go a b i dc IB.out]; exact hins.out⟩, SW⟩
   ·have cnd : decide (z < bz) = false := decide_eq_false (by have := hz.out; have := hbz.out; omega)
    have HE := aS_ (insOuterF_stop (lt := lt) a b i dc hend)
    clear hend
    go_wp2
    go_end0
    exact ⟨rfl, by rw [← hins.out, HE.out]; exact SR.out⟩
end Go.Proofs.Ytfmjgjfbnilpoaa.FAll
