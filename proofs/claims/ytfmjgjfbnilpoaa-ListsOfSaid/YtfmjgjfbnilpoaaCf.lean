/-
 slices.stableCmpFunc, slices.SortStableFunc at structs: the row rises, and of each greatness the same ones stand in the same order.
-/
import Derived.Test.YtfmjgjfbnilpoaaZq
import Derived.Test.YtfmjgjfbnilpoaaCe
namespace Go.Proofs.Ytfmjgjfbnilpoaa.FAll
open Go.RowKit Go.Sort YtfmjgjfbnilpoaaW.PrintWords YtfmjgjfbnilpoaaW.PrintLast YtfmjgjfbnilpoaaW.PrintMore
set_option linter.unusedVariables false
set_option linter.unusedSimpArgs false
theorem Blk.first {α : Type} [Inhabited α] {lt : α → α → Bool} {bs n a e : Nat} {d : Array α} (h : Blk lt bs a n d) (he : a = e * (2 * bs)) (hn : n ≤ a + bs) : SortedIn lt a n d := by
 have e1 : e * (2 * bs) = (2 * e) * bs := by rw [← Nat.mul_assoc, Nat.mul_comm e 2]
 have := h (2 * e) (by omega)
 rw [← e1, ← he, Nat.min_eq_left hn] at this
 exact this
set_option maxHeartbeats 16000000 in
set_option maxRecDepth 100000 in
theorem stableFC.calls {α : Type} [Inhabited α] {E : RcC α} {kb : Nat} {ko : Obj} {lt : α → α → Bool} {F : FuncId} {lb : Array Value} (CF : CmpC E kb ko lt F lb) (w : World) (g cap : Nat) (tl : List Value) (d : Array α) (nz : Int) (hn : Aside0 (nz = (d.size : Nat))) (hR : Aside0 (SrC E kb ko w g tl d w)) (hsz : Aside0 (d.size ≤ 1152921504606846976)) :
  Calls Try.prog 61 #[.slice (some ⟨g, 0, none⟩) d.size cap, .int .i64 nz, .func (.func F) #[] lb] w fun e w' => e = .returned (.tuple #[]) ∧ ∃ d', Stab lt 0 d.size d d' ∧ SortedIn lt 0 d.size d' ∧ SrC E kb ko w g tl d' w' := by
 have hsz2 := aS_ (show d.size < 2000000000000000000 by have := hsz.out; omega)
 go_enter Try.func61, Try.ntmps61
 go_wp2
 go_loopg [7, 8] (d.size + 1) (fun kq v7 v8 w' => ∃ (az bz : Int) (a e : Nat) (dj : Array α), v7 = .int .i64 az ∧ v8 = .int .i64 bz ∧ Aside0 (az = a) ∧ Aside0 (bz = (a + 20 : Nat)) ∧ Aside0 (a = e * 20 ∧ a ≤ d.size) ∧ Aside0 (d.size - a < kq) ∧ Aside0 (Stab lt 0 d.size d dj) ∧ Aside0 (Done lt 20 a dj) ∧ Aside0 (SrC E kb ko w g tl dj w'))
 case atStart => exact ⟨_, _, 0, 0, d, rfl, rfl, ⟨rfl⟩, ⟨rfl⟩, ⟨by omega⟩, ⟨by omega⟩, ⟨Stab.refl _ _ _⟩, ⟨Done.zero 20 (by omega) d⟩, hR⟩
 case round =>
  clear hR
  obtain ⟨az, bz, a, e, dj, rfl, rfl, ha, hb, AE, hk, ST, DN, SR⟩ := hrel
  have HD := aS_ ST.out.size
  cases gk with
  | zero => exact absurd hk.out (by omega)
  | succ k1 =>
   by_cases hle : a + 20 ≤ d.size
   ·have cnd : decide (bz ≤ nz) = true := decide_eq_true (by have := hb.out; have := hn.out; omega)
    have LE := aS_ hle
    clear hle
    obtain ⟨bz2, hbz2⟩ : ∃ bz2 : Int, bz2 = bz + 20 := ⟨_, rfl⟩
    have B2 := aS_ (show bz2 = ((a + 20 + 20 : Nat) : Int) by have := hb.out; omega)
    have wb_ : wrap64 (bz + 20) = bz2 := by have := B2.out; have := LE.out; have := hsz.out; have := hb.out; unfold wrap64; omega
    clear hbz2
    go_wp2_with (first | (go_at_call 70; have h_ := insertionSortFC.calls CF _ g cap tl dj (a) (a + 20) _ _ ha hb ⟨SR.out.self⟩ ⟨by rw [HD.out]; exact LE.out⟩ ⟨by omega⟩ ⟨by rw [HD.out]; have := hsz.out; omega⟩; rw [HD.out] at h_; refine h_.mono ?_; clear h_; rintro e w1 ⟨rfl, hr⟩; obtain ⟨d2, hd2⟩ : ∃ d2, d2 = insertionSort lt dj (a) (a + 20) := ⟨_, rfl⟩; rw [← hd2] at hr; have ST2 := aS_ (show Stab lt (a) (a + 20) dj d2 by rw [hd2]; exact insertion_stab CF.swo _ _ _ (by rw [HD.out]; exact LE.out)); have SO2 := aS_ (show SortedIn lt (a) (a + 20) d2 by rw [hd2]; exact insertion_sorted CF.swo _ _ _ (by omega) (by rw [HD.out]; exact LE.out)); clear hd2; have SR_ := aS_ (SR.out.then_ hr); clear SR hr; have SR := SR_; clear SR_))
    go_roundg k1
    case measure => exact Nat.lt_succ_self _
    case rel => exact ⟨_, _, a + 20, e + 1, d2, rfl, rfl, hb, ⟨wb_.trans B2.out⟩, ⟨by have := AE.out; have := LE.out; omega⟩, ⟨by have := hk.out; have := LE.out; omega⟩, ⟨ST.out.trans (ST2.out.mono (by omega) LE.out)⟩, ⟨DN.out.next AE.out.1 (by omega) ST2.out SO2.out⟩, SR⟩
   ·have cnd : decide (bz ≤ nz) = false := decide_eq_false (by have := hb.out; have := hn.out; omega)
    have LE := aS_ (show d.size < a + 20 by omega)
    clear hle hk
    go_wp2_with (first | (go_at_call 70; have h_ := insertionSortFC.calls CF _ g cap tl dj (a) (d.size) _ _ ha hn ⟨SR.out.self⟩ ⟨by rw [HD.out]; exact Nat.le_refl _⟩ ⟨by have := AE.out; omega⟩ ⟨by rw [HD.out]; have := hsz.out; omega⟩; rw [HD.out] at h_; refine h_.mono ?_; clear h_; rintro e w1 ⟨rfl, hr⟩; obtain ⟨d2, hd2⟩ : ∃ d2, d2 = insertionSort lt dj (a) (d.size) := ⟨_, rfl⟩; rw [← hd2] at hr; have ST2 := aS_ (show Stab lt (a) (d.size) dj d2 by rw [hd2]; exact insertion_stab CF.swo _ _ _ (by rw [HD.out]; exact Nat.le_refl _)); have SO2 := aS_ (show SortedIn lt (a) (d.size) d2 by rw [hd2]; exact insertion_sorted CF.swo _ _ _ (by have := AE.out; omega) (by rw [HD.out]; exact Nat.le_refl _)); clear hd2; have SR_ := aS_ (SR.out.then_ hr); clear SR hr; have SR := SR_; clear SR_))
    have BL := aS_ (DN.out.last AE.out.1 LE.out ST2.out SO2.out)
    have ST3 := aS_ (ST.out.trans (ST2.out.mono (Nat.zero_le _) (Nat.le_refl _)))
    clear ST ST2 SO2 DN HD
    go_loopg [6] (d.size + 1) (fun kq v6 w' => ∃ (sz : Int) (bs : Nat) (dj : Array α), v6 = .int .i64 sz ∧ Aside0 (sz = bs) ∧ Aside0 (0 < bs) ∧ Aside0 (d.size - bs < kq) ∧ Aside0 (Stab lt 0 d.size d dj) ∧ Aside0 (Blk lt bs 0 d.size dj) ∧ Aside0 (SrC E kb ko w g tl dj w'))
    case atStart => exact ⟨_, 20, d2, rfl, ⟨rfl⟩, ⟨by omega⟩, ⟨by omega⟩, ST3, BL, SR⟩
    case round =>
     clear SR ST3 BL ha hb AE LE cnd
     obtain ⟨sz, bs, dj, rfl, hs, hb0, hk, ST, BL, SR⟩ := hrel
     cases gk with
     | zero => exact absurd hk.out (by omega)
     | succ k1 =>
      by_cases hlt : bs < d.size
      ·have cnd : decide (sz < nz) = true := decide_eq_true (by have := hs.out; have := hn.out; omega)
       have LT := aS_ hlt
       clear hlt
       obtain ⟨tz, htz⟩ : ∃ tz : Int, tz = 2 * sz := ⟨_, rfl⟩
       have TZ := aS_ (show tz = ((2 * bs : Nat) : Int) by have := hs.out; omega)
       have wt_ : wrap64 (2 * sz) = tz := by have := TZ.out; have := LT.out; have := hsz.out; have := hs.out; unfold wrap64; omega
       have wt2_ : wrap64 (sz * 2) = tz := by have := TZ.out; have := LT.out; have := hsz.out; have := hs.out; unfold wrap64; omega
       clear htz
       go_wp2
       (try simp only [wt_])
       go_loopg [7, 8] (d.size + 1) (fun kq v7 v8 w' => ∃ (az bz : Int) (a e : Nat) (dq : Array α), v7 = .int .i64 az ∧ v8 = .int .i64 bz ∧ Aside0 (az = a) ∧ Aside0 (bz = (a + 2 * bs : Nat)) ∧ Aside0 (a = e * (2 * bs)) ∧ Aside0 (a ≤ d.size) ∧ Aside0 (d.size - a < kq) ∧ Aside0 (Stab lt 0 d.size d dq) ∧ Aside0 (Done lt (2 * bs) a dq) ∧ Aside0 (Blk lt bs a d.size dq) ∧ Aside0 (SrC E kb ko w g tl dq w'))
       case atStart => exact ⟨_, _, 0, 0, dj, rfl, rfl, ⟨rfl⟩, ⟨by have := TZ.out; omega⟩, ⟨by omega⟩, ⟨Nat.zero_le _⟩, ⟨by omega⟩, ST, ⟨Done.zero _ (by have := hb0.out; omega) dj⟩, BL, SR⟩
       case round =>
        clear SR ST BL
        obtain ⟨az, bz, a, e, dq, rfl, rfl, ha, hb, AE, AN, hk2, ST, DN, BL, SR⟩ := hrel
        have HD := aS_ ST.out.size
        cases gk with
        | zero => exact absurd hk2.out (by omega)
        | succ k2 =>
         by_cases hle : a + 2 * bs ≤ d.size
         ·have cnd2 : decide (bz ≤ nz) = true := decide_eq_true (by have := hb.out; have := hn.out; omega)
          have LE := aS_ hle
          clear hle
          obtain ⟨mz, hmz⟩ : ∃ mz : Int, mz = az + sz := ⟨_, rfl⟩
          have MZ := aS_ (show mz = ((a + bs : Nat) : Int) by have := ha.out; have := hs.out; omega)
          have wm_ : wrap64 (az + sz) = mz := by have := MZ.out; have := AN.out; have := LT.out; have := hsz.out; have := ha.out; have := hs.out; unfold wrap64; omega
          clear hmz
          obtain ⟨bz2, hbz2⟩ : ∃ bz2 : Int, bz2 = bz + tz := ⟨_, rfl⟩
          have B2 := aS_ (show bz2 = ((a + 2 * bs + 2 * bs : Nat) : Int) by have := hb.out; have := TZ.out; omega)
          have wb_ : wrap64 (bz + tz) = bz2 := by have := B2.out; have := LE.out; have := LT.out; have := hsz.out; have := hb.out; have := TZ.out; unfold wrap64; omega
          clear hbz2
          have S1 := aS_ (BL.out.one AE.out (by have := LE.out; omega))
          have S2 := aS_ (show SortedIn lt (a + bs) (a + 2 * bs) dq by have h_ := BL.out.two AE.out; rw [Nat.min_eq_right LE.out] at h_; exact h_)
          go_wp2_with (first | (go_at_call 71; have h_ := symMergeFC.calls CF ((a + 2 * bs) - (a) + 1) _ g cap tl dq (a) (a + bs) (a + 2 * bs) _ _ _ ha MZ hb ⟨SR.out.self⟩ ⟨by have := hb0.out; omega⟩ ⟨by have := hb0.out; omega⟩ ⟨by rw [HD.out]; exact LE.out⟩ ⟨S1.out⟩ ⟨S2.out⟩ ⟨by rw [HD.out]; have := hsz.out; omega⟩ (by omega); rw [HD.out] at h_; refine h_.mono ?_; clear h_; rintro e w1 ⟨rfl, d2, hst, hso, hr⟩; have ST2 := aS_ hst; have SO2 := aS_ hso; clear hst hso; have SR_ := aS_ (SR.out.then_ hr); clear SR hr; have SR := SR_; clear SR_))
          go_roundg k2
          case measure => exact Nat.lt_succ_self _
          case rel => exact ⟨_, _, a + 2 * bs, e + 1, d2, rfl, rfl, hb, ⟨wb_.trans B2.out⟩, ⟨by rw [Nat.succ_mul e]; have := AE.out; omega⟩, ⟨LE.out⟩, ⟨by have := hk2.out; have := LE.out; have := hb0.out; omega⟩, ⟨ST.out.trans (ST2.out.mono (Nat.zero_le _) LE.out)⟩, ⟨DN.out.next AE.out (by have := hb0.out; omega) ST2.out SO2.out⟩, ⟨BL.out.next ST2.out⟩, SR⟩
         ·have cnd2 : decide (bz ≤ nz) = false := decide_eq_false (by have := hb.out; have := hn.out; omega)
          have LE := aS_ (show d.size < a + 2 * bs by omega)
          clear hle hk2
          obtain ⟨mz, hmz⟩ : ∃ mz : Int, mz = az + sz := ⟨_, rfl⟩
          have MZ := aS_ (show mz = ((a + bs : Nat) : Int) by have := ha.out; have := hs.out; omega)
          have wm_ : wrap64 (az + sz) = mz := by have := MZ.out; have := AN.out; have := LT.out; have := hsz.out; have := ha.out; have := hs.out; unfold wrap64; omega
          clear hmz
          have S2 := aS_ (show SortedIn lt (a + bs) d.size dq by have h_ := BL.out.two AE.out; rw [Nat.min_eq_left (by have := LE.out; omega)] at h_; exact h_)
          by_cases hmn : a + bs < d.size
          ·have c3 : decide (mz < nz) = true := decide_eq_true (by have := MZ.out; have := hn.out; omega)
           have MN := aS_ hmn
           clear hmn
           have S1 := aS_ (BL.out.one AE.out (by have := MN.out; omega))
           go_wp2_with (first | (go_at_call 71; have h_ := symMergeFC.calls CF ((d.size) - (a) + 1) _ g cap tl dq (a) (a + bs) (d.size) _ _ _ ha MZ hn ⟨SR.out.self⟩ ⟨by have := hb0.out; omega⟩ ⟨MN.out⟩ ⟨by rw [HD.out]; exact Nat.le_refl _⟩ ⟨S1.out⟩ ⟨S2.out⟩ ⟨by rw [HD.out]; have := hsz.out; omega⟩ (by omega); rw [HD.out] at h_; refine h_.mono ?_; clear h_; rintro e w1 ⟨rfl, d2, hst, hso, hr⟩; have ST2 := aS_ hst; have SO2 := aS_ hso; clear hst hso; have SR_ := aS_ (SR.out.then_ hr); clear SR hr; have SR := SR_; clear SR_))
           go_roundg k1
           case measure => exact Nat.lt_succ_self _
           case rel => exact ⟨_, 2 * bs, d2, rfl, ⟨wt2_.trans TZ.out⟩, ⟨by have := hb0.out; omega⟩, ⟨by have := hk.out; have := LT.out; have := hb0.out; omega⟩, ⟨ST.out.trans (ST2.out.mono (Nat.zero_le _) (Nat.le_refl _))⟩, ⟨DN.out.last AE.out LE.out ST2.out SO2.out⟩, SR⟩
          ·have c3 : decide (mz < nz) = false := decide_eq_false (by have := MZ.out; have := hn.out; omega)
           have MN := aS_ (show d.size ≤ a + bs by omega)
           clear hmn
           have S1 := aS_ (show SortedIn lt a d.size dq by exact BL.out.first AE.out MN.out)
           go_wp2
           go_roundg k1
           case measure => exact Nat.lt_succ_self _
           case rel => exact ⟨_, 2 * bs, dq, rfl, ⟨wt2_.trans TZ.out⟩, ⟨by have := hb0.out; omega⟩, ⟨by have := hk.out; have := LT.out; have := hb0.out; omega⟩, ⟨ST.out.trans ((Stab.refl a d.size dq).mono (Nat.zero_le _) (Nat.le_refl _))⟩, ⟨DN.out.last AE.out LE.out (Stab.refl a d.size dq) S1.out⟩, SR⟩
      ·have cnd : decide (sz < nz) = false := decide_eq_false (by have := hs.out; have := hn.out; omega)
       have LT := aS_ (show d.size ≤ bs by omega)
       clear hlt hk
       go_wp2
       go_end0
       exact ⟨rfl, dj, ST.out, BL.out.whole LT.out, SR.out⟩
theorem sortStableFC.calls {α : Type} [Inhabited α] {E : RcC α} {kb : Nat} {ko : Obj} {lt : α → α → Bool} {F : FuncId} {lb : Array Value} (CF : CmpC E kb ko lt F lb) (w : World) (g cap : Nat) (tl : List Value) (d : Array α) (hR : Aside0 (SrC E kb ko w g tl d w)) (hsz : Aside0 (d.size ≤ 1152921504606846976)) :
  Calls Try.prog 44 #[.slice (some ⟨g, 0, none⟩) d.size cap, .func (.func F) #[] lb] w fun e w' => e = .returned (.tuple #[]) ∧ ∃ d', Stab lt 0 d.size d d' ∧ SortedIn lt 0 d.size d' ∧ SrC E kb ko w g tl d' w' := by
 go_enter Try.func44, Try.ntmps44
 go_wp2_with (first | (go_at_call 61; refine (stableFC.calls CF _ g cap tl d _ ⟨rfl⟩ hR hsz).mono ?_; rintro e w1 ⟨rfl, hx⟩; have HX := aS_ hx; clear hx))
 go_end0
 exact ⟨rfl, HX.out⟩
end Go.Proofs.Ytfmjgjfbnilpoaa.FAll
