/-
  slices.pdqsortOrdered at []uint64: the row is a permutation of what it was, and rises.
-/
import Derived.Test.YtdhiljimmijghaaSi
import Derived.Test.YtdhiljimmijghaaSj
import Derived.Test.YtdhiljimmijghaaSe
import Derived.Test.YtdhiljimmijghaaSn
import Derived.Test.YtdhiljimmijghaaSv
import Derived.Test.YtdhiljimmijghaaSc
import Derived.Test.YtdhiljimmijghaaSb
namespace Go.Proofs.Ytdhiljimmijghaa.FAll
open Go.RowKit Go.Sort Go.Proofs.YtdhiljimmijghaaW.PrintWords Go.Proofs.YtdhiljimmijghaaW.PrintLast Go.Proofs.YtdhiljimmijghaaW.PrintMore
set_option linter.unusedVariables false
set_option linter.unusedSimpArgs false
theorem swoI : SWO ltInt where
  irrefl := fun x => by unfold ltInt; simp
  trans := fun x y z h1 h2 => by unfold ltInt at *; simp only [decide_eq_true_eq] at *; omega
  ntrans := fun x y z h1 h2 => by unfold ltInt at *; simp only [decide_eq_false_iff_not] at *; omega
/-- What is left to be sorted, and that then all is. -/
structure PdqIs (a b a1 b1 : Nat) (d dj : Array Int) : Prop where
  below : Go.Sort.Below ltInt a1 b1 dj
  fin : ∀ R, PermIn a1 b1 dj R → SortedIn ltInt a1 b1 R → PermIn a b d R ∧ SortedIn ltInt a b R
structure RoundEq (d3 d4 : Array Int) (a b mid : Nat) : Prop where
  out : a < mid ∧ mid ≤ b ∧ d4.size = d3.size ∧ Go.Sort.Below ltInt mid b d4 ∧ ∀ R, PermIn mid b d4 R → SortedIn ltInt mid b R → PermIn a b d3 R ∧ SortedIn ltInt a b R
structure RoundPart (d3 d4 : Array Int) (a b mid : Nat) : Prop where
  out : a ≤ mid ∧ mid < b ∧ d4.size = d3.size ∧ Go.Sort.Below ltInt a mid d4 ∧ Go.Sort.Below ltInt (mid + 1) b d4 ∧
    (∀ L, PermIn a mid d4 L → SortedIn ltInt a mid L → Go.Sort.Below ltInt (mid + 1) b L ∧ ∀ R, PermIn (mid + 1) b L R → SortedIn ltInt (mid + 1) b R → PermIn a b d3 R ∧ SortedIn ltInt a b R) ∧
    (∀ L, PermIn (mid + 1) b d4 L → SortedIn ltInt (mid + 1) b L → Go.Sort.Below ltInt a mid L ∧ ∀ R, PermIn a mid L R → SortedIn ltInt a mid R → PermIn a b d3 R ∧ SortedIn ltInt a b R)
section
variable {d3 d4 : Array Int} {a b mid : Nat} (h : RoundPart d3 d4 a b mid)
theorem RoundPart.h1 (h : RoundPart d3 d4 a b mid) : a ≤ mid := h.out.1
theorem RoundPart.h2 (h : RoundPart d3 d4 a b mid) : mid < b := h.out.2.1
theorem RoundPart.bl (h : RoundPart d3 d4 a b mid) : Go.Sort.Below ltInt a mid d4 := h.out.2.2.2.1
theorem RoundPart.br (h : RoundPart d3 d4 a b mid) : Go.Sort.Below ltInt (mid + 1) b d4 := h.out.2.2.2.2.1
theorem RoundPart.left (h : RoundPart d3 d4 a b mid) : ∀ L, PermIn a mid d4 L → SortedIn ltInt a mid L → Go.Sort.Below ltInt (mid + 1) b L ∧ ∀ R, PermIn (mid + 1) b L R → SortedIn ltInt (mid + 1) b R → PermIn a b d3 R ∧ SortedIn ltInt a b R := h.out.2.2.2.2.2.1
theorem RoundPart.right (h : RoundPart d3 d4 a b mid) : ∀ L, PermIn (mid + 1) b d4 L → SortedIn ltInt (mid + 1) b L → Go.Sort.Below ltInt a mid L ∧ ∀ R, PermIn a mid L R → SortedIn ltInt a mid R → PermIn a b d3 R ∧ SortedIn ltInt a b R := h.out.2.2.2.2.2.2
end
/-- pdqsort sorts what lies from a to b. -/
def PdqCalls (n : Nat) : Prop := ∀ (w : World) (g cap : Nat) (tl : List Value) (d : Array Int) (a b : Nat) (az bz lm : Int), Aside0 (az = a) → Aside0 (bz = b) → Aside0 (Srt w g tl d w) → Aside0 (b ≤ d.size) → Aside0 (a ≤ b) → Aside0 (Go.Sort.Below ltInt a b d) → Aside0 (0 ≤ lm ∧ lm ≤ 64) → Aside0 (d.size ≤ 1152921504606846976) → b - a < n →
    Calls Try.prog 32 #[.slice (some ⟨g, 0, none⟩) d.size cap, .int .i64 az, .int .i64 bz, .int .i64 lm] w fun e w' => ∃ d', e = .returned (.tuple #[]) ∧ PermIn a b d d' ∧ SortedIn ltInt a b d' ∧ d'.size = d.size ∧ Srt w g tl d' w'
set_option maxHeartbeats 16000000 in
set_option maxRecDepth 100000 in
theorem pdq_step (n : Nat) (ih : PdqCalls n) : PdqCalls (n + 1) := by
  intro w g cap tl d a b az0 bz0 lm0 hza0 hzb0 hR hbb hab hBe hlm hsz hN
  go_enter Try.func32, Try.ntmps32
  go_wp2
  go_loopg [1, 2, 3, 8, 9] (b - a + 1) (fun kq v1 v2 v3 v8 v9 w' => ∃ (az bz lm : Int) (wb wp : Bool) (a1 b1 : Nat) (dj : Array Int), v1 = .int .i64 az ∧ v2 = .int .i64 bz ∧ v3 = .int .i64 lm ∧ v8 = .bool wb ∧ v9 = .bool wp ∧ Aside0 (az = a1) ∧ Aside0 (bz = b1) ∧ Aside0 (0 ≤ lm ∧ lm ≤ 64) ∧ Aside0 (a ≤ a1 ∧ a1 ≤ b1 ∧ b1 ≤ b) ∧ Aside0 (b1 - a1 < kq) ∧ PdqIs a b a1 b1 d dj ∧ Aside0 (dj.size = d.size) ∧ Aside0 (Srt w g tl dj w'))
  case atStart => exact ⟨_, _, _, _, _, a, b, d, rfl, rfl, rfl, rfl, rfl, hza0, hzb0, hlm, ⟨by have := hab.out; omega⟩, ⟨by omega⟩, ⟨hBe.out, fun R h1 h2 => ⟨h1, h2⟩⟩, ⟨rfl⟩, hR⟩
  case round =>
    clear hR
    obtain ⟨az, bz, lm, wb, wp, a1, b1, dj, rfl, rfl, rfl, rfl, rfl, hza, hzb, LM, RNG, hk, IS, HD, SR⟩ := hrel
    cases gk with
    | zero => exact absurd hk.out (by omega)
    | succ k1 =>
      have h1_ := hza.out
      have h2_ := hzb.out
      have h3_ := RNG.out
      have h4_ := hbb.out
      have h5_ := hsz.out
      obtain ⟨lz, hlz⟩ : ∃ lz : Int, lz = bz - az := ⟨_, rfl⟩
      have LZ := Aside0.mk (show lz = ((b1 - a1 : Nat) : Int) by omega)
      have wl_ : wrap64 (bz - az) = lz := by unfold wrap64; omega
      clear h1_ h2_ h3_ h4_ h5_ hlz
      by_cases h12 : b1 - a1 ≤ 12
      · have c12 : decide (lz ≤ 12) = true := decide_eq_true (by have := LZ.out; omega)
        clear h12
        go_wp2_with (first | (go_at_call 39; have h_ := insertionSort64.calls _ g cap tl dj a1 b1 az bz hza hzb ⟨SR.out.self⟩ ⟨by rw [HD.out]; have := RNG.out; have := hbb.out; omega⟩ ⟨by have := RNG.out; omega⟩ ⟨by rw [HD.out]; have := hsz.out; omega⟩; rw [HD.out] at h_; refine h_.mono ?_; clear h_; rintro e w1 ⟨rfl, hr⟩; have SR_ := Aside0.mk (SR.out.then_ hr); clear SR; have SR := SR_; clear SR_))
        (try simp only [Exit.inBlock, Exit.then])
        refine bodyPost_ret (results_none rfl _ _ _) rfl ?_
        obtain ⟨q1, q2⟩ := insertionSort_holds (lt := ltInt) swoI dj a1 b1 (by have := RNG.out; omega) (by rw [HD.out]; have := RNG.out; have := hbb.out; omega)
        obtain ⟨r1, r2⟩ := IS.fin _ q1 q2
        exact ⟨_, rfl, r1, r2, r1.1, SR.out⟩
      · have c12 : decide (lz ≤ 12) = false := decide_eq_false (by have := LZ.out; omega)
        have LEN := Aside0.mk (show 12 < b1 - a1 by omega)
        clear h12
        by_cases hl0 : lm = 0
        · have c0 : (lm == 0) = true := by rw [beq_iff_eq]; exact hl0
          have c0b : decide (lm = 0) = true := decide_eq_true hl0
          clear hl0
          go_wp2_with (first | (go_at_call 40; have h_ := heapSort64.calls _ g cap tl dj a1 b1 az bz hza hzb ⟨SR.out.self⟩ ⟨by rw [HD.out]; have := RNG.out; have := hbb.out; omega⟩ ⟨by have := LEN.out; omega⟩ ⟨by rw [HD.out]; exact hsz.out⟩; rw [HD.out] at h_; refine h_.mono ?_; clear h_; rintro e w1 ⟨rfl, hr⟩; have SR_ := Aside0.mk (SR.out.then_ hr); clear SR; have SR := SR_; clear SR_))
          (try simp only [Exit.inBlock, Exit.then])
          refine bodyPost_ret (results_none rfl _ _ _) rfl ?_
          obtain ⟨q1, q2⟩ := heapSort_holds (lt := ltInt) swoI dj a1 b1 (by have := RNG.out; omega) (by rw [HD.out]; have := RNG.out; have := hbb.out; omega)
          obtain ⟨r1, r2⟩ := IS.fin _ q1 q2
          exact ⟨_, rfl, r1, r2, r1.1, SR.out⟩
        · have c0 : (lm == 0) = false := by rw [beq_eq_false_iff_ne]; exact hl0
          have c0b : decide (lm = 0) = false := decide_eq_false hl0
          have LN := Aside0.mk hl0
          have wlm_ : wrap64 (lm - 1) = lm - 1 := by have := LM.out; unfold wrap64; omega
          clear hl0
          go_upto_if 35 with (fail)
          (try simp only [wl_])
          go_cut [3] from 36 to 41 (fun s_ wc => ∃ (lm2 : Int) (d1 : Array Int), s_ = .int .i64 lm2 ∧ Aside0 (0 ≤ lm2 ∧ lm2 ≤ 64) ∧ Aside0 (PermIn a1 b1 dj d1) ∧ Aside0 (d1.size = d.size) ∧ Aside0 (Srt w g tl d1 wc))
          case first =>
            cases wb
            · go_wp2_with (first | (go_at_call 41; have h_ := breakPatterns64.calls _ g cap tl dj a1 b1 az bz hza hzb ⟨SR.out.self⟩ ⟨by rw [HD.out]; have := RNG.out; have := hbb.out; omega⟩ ⟨by have := LEN.out; omega⟩ ⟨by rw [HD.out]; exact hsz.out⟩; rw [HD.out] at h_; refine h_.mono ?_; clear h_; rintro e w1 ⟨d1, rfl, hp, hs, hr⟩; have P1 := Aside0.mk hp; have H1 := Aside0.mk hs; have SR_ := Aside0.mk (SR.out.then_ hr); clear SR; have SR := SR_; clear SR_; clear hp hs hr))
              go_meet
              exact ⟨_, d1, rfl, ⟨by have := LM.out; have := LN.out; omega⟩, P1, H1, SR⟩
            · go_wp2
              go_meet
              exact ⟨_, dj, rfl, LM, ⟨permIn_refl _ _ _⟩, HD, SR⟩
          case rest =>
            clear SR
            obtain ⟨lm2, d1, rfl, LM2, P1, HD1, SR⟩ := hcut
            go_upto_if 50 with (first | (go_at_call 42; have h_ := choosePivot64.calls _ g cap tl d1 a1 b1 az bz hza hzb ⟨SR.out.self⟩ ⟨by rw [HD1.out]; have := RNG.out; have := hbb.out; omega⟩ ⟨by have := LEN.out; omega⟩ ⟨by rw [HD1.out]; exact hsz.out⟩; rw [HD1.out] at h_; refine h_.mono ?_; clear h_; rintro e w1 ⟨p, h, rfl, hp, hh, hr⟩; obtain ⟨pz, hpz_⟩ : ∃ pz : Int, pz = (p : Int) := ⟨_, rfl⟩; rw [← hpz_]; have PZ := Aside0.mk hpz_; have PR := Aside0.mk hp; have HH := Aside0.mk hh; have SR_ := Aside0.mk (SR.out.then_ hr); clear SR; have SR := SR_; clear SR_; clear hp hh hr hpz_))
            have h1_ := hza.out
            have h2_ := hzb.out
            have h3_ := RNG.out
            have h4_ := hbb.out
            have h5_ := hsz.out
            have h6_ := PZ.out
            have h7_ := PR.out
            obtain ⟨bm, hbm⟩ : ∃ bm : Int, bm = bz - 1 := ⟨_, rfl⟩
            obtain ⟨pa, hpa⟩ : ∃ pa : Int, pa = pz - az := ⟨_, rfl⟩
            obtain ⟨np, hnp⟩ : ∃ np : Int, np = bm - pa := ⟨_, rfl⟩
            have wbm_ : wrap64 (bz - 1) = bm := by unfold wrap64; omega
            have wpa_ : wrap64 (pz - az) = pa := by unfold wrap64; omega
            have wnp_ : wrap64 (bm - pa) = np := by unfold wrap64; omega
            have NP := Aside0.mk (show np = ((b1 - 1 - (p - a1) : Nat) : Int) by omega)
            clear h1_ h2_ h3_ h4_ h5_ h6_ h7_ hbm hpa hnp
            go_cut [11, 12] from 51 to 60 (fun s_ s2_ wc => ∃ (pz2 h2 : Int) (p2 : Nat) (d2 : Array Int), s_ = .int .i64 pz2 ∧ s2_ = .int .i64 h2 ∧ Aside0 (pz2 = p2) ∧ Aside0 (a1 ≤ p2 ∧ p2 < b1) ∧ Aside0 (PermIn a1 b1 d1 d2) ∧ Aside0 (d2.size = d.size) ∧ Aside0 (Srt w g tl d2 wc))
            case first =>
              rcases HH.out with rfl | rfl | rfl
              · go_wp2
                go_meet
                exact ⟨_, _, p, d1, rfl, rfl, PZ, PR, ⟨permIn_refl _ _ _⟩, HD1, SR⟩
              · go_wp2
                go_meet
                exact ⟨_, _, p, d1, rfl, rfl, PZ, PR, ⟨permIn_refl _ _ _⟩, HD1, SR⟩
              · go_wp2_with (first | (go_at_call 43; have h_ := reverseRange64.calls _ g cap tl d1 a1 b1 az bz hza hzb ⟨SR.out.self⟩ ⟨by rw [HD1.out]; have := RNG.out; have := hbb.out; omega⟩ ⟨by have := LEN.out; omega⟩ ⟨by rw [HD1.out]; exact hsz.out⟩; rw [HD1.out] at h_; refine h_.mono ?_; clear h_; rintro e w2 ⟨rfl, hs, hr⟩; have H2 := Aside0.mk hs; have SR_ := Aside0.mk (SR.out.then_ hr); clear SR; have SR := SR_; clear SR_; clear hs hr))
                (try simp only [wbm_, wpa_, wnp_])
                go_meet
                exact ⟨_, _, b1 - 1 - (p - a1), reverseRange d1 a1 b1, rfl, rfl, NP, ⟨by have := PR.out; have := LEN.out; omega⟩, ⟨reverseRange_holds d1 a1 b1 (by have := LEN.out; omega) (by rw [HD1.out]; have := RNG.out; have := hbb.out; omega)⟩, H2, SR⟩
            case rest =>
              clear SR
              obtain ⟨pz2, h2, p2, d2, rfl, rfl, PZ2, PR2, P2, HD2, SR⟩ := hcut
              go_upto_region 15 with (fail)
              go_cut [68] from 61 to 68 (fun s_ wc => ∃ (c : Bool), s_ = .bool c ∧ Aside0 (Srt w g tl d2 wc))
              case first =>
                cases wb
                all_goals cases wp
                all_goals go_wp2
                all_goals go_meet
                all_goals exact ⟨_, rfl, SR⟩
              case rest =>
                clear SR
                obtain ⟨c, rfl, SR⟩ := hcut
                have HP2 := Aside0.mk (permIn_trans _ _ _ a1 b1 P1.out P2.out)
                have BE2 := Aside0.mk (Go.Sort.Below.perm IS.below (by rw [HD.out]; have := RNG.out; have := hbb.out; omega) HP2.out)
                go_upto_if 68 with (fail)
                go_cut [13] from 69 to 72 (fun s_ wc => ∃ (d3 : Array Int), Aside0 (PermIn a1 b1 dj d3) ∧ Aside0 (d3.size = d.size) ∧ Aside0 (Srt w g tl d3 wc))
                case first =>
                  cases c
                  · go_wp2
                    go_meet
                    exact ⟨d2, HP2, HD2, SR⟩
                  · go_wp2_with (first | (go_at_call 44; have h_ := partialInsertionSort64.calls _ g cap tl d2 a1 b1 az bz hza hzb ⟨SR.out.self⟩ ⟨by rw [HD2.out]; have := RNG.out; have := hbb.out; omega⟩ ⟨by have := LEN.out; omega⟩ ⟨by rw [HD2.out]; exact hsz.out⟩; rw [HD2.out] at h_; refine h_.mono ?_; clear h_; rintro e w2 ⟨rfl, hs, hr⟩; obtain ⟨pb, hpb⟩ : ∃ pb, pb = (partialInsertionSort ltInt d2 a1 b1).2 := ⟨_, rfl⟩; rw [← hpb]; have PB := Aside0.mk hpb; have H3 := Aside0.mk hs; have SR_ := Aside0.mk (SR.out.then_ hr); clear SR; have SR := SR_; clear SR_; clear hs hr hpb))
                    all_goals obtain ⟨q1, q2⟩ := partialInsertionSort_holds (lt := ltInt) swoI d2 a1 b1 (by have := LEN.out; omega) (by rw [HD2.out]; have := RNG.out; have := hbb.out; omega) BE2.out
                    all_goals first
                      | (go_meet; exact ⟨_, ⟨permIn_trans _ _ _ a1 b1 HP2.out q1⟩, H3, SR⟩)
                      | ((try simp only [Exit.inBlock, Exit.then]); refine bodyPost_ret (results_none rfl _ _ _) rfl ?_; obtain ⟨r1, r2⟩ := IS.fin _ (permIn_trans _ _ _ a1 b1 HP2.out q1) (q2 (by rw [← PB.out]; first | assumption | rfl | simp_all)); exact ⟨_, rfl, r1, r2, r1.1, SR.out⟩)
                case rest =>
                  clear SR
                  obtain ⟨d3, P3, HD3, SR⟩ := hcut
                  have BE3 := Aside0.mk (Go.Sort.Below.perm IS.below (by rw [HD.out]; have := RNG.out; have := hbb.out; omega) P3.out)
                  have B3 := Aside0.mk (show b1 ≤ d3.size by rw [HD3.out]; have := RNG.out; have := hbb.out; omega)
                  by_cases ha0 : 0 < a1
                  · have c17 : decide (az > 0) = true := decide_eq_true (by have := hza.out; omega)
                    have A0 := Aside0.mk ha0
                    have h1_ := hza.out
                    have h2_ := PZ2.out
                    have h3_ := PR2.out
                    have h4_ := B3.out
                    have h5_ := hsz.out
                    have h6_ := HD3.out
                    obtain ⟨am, ham⟩ : ∃ am : Int, am = az - 1 := ⟨_, rfl⟩
                    have wam_ : wrap64 (az - 1) = am := by unfold wrap64; omega
                    have P_am := Aside0.mk (⟨by omega, by omega⟩ : am.toNat = a1 - 1 ∧ a1 - 1 < d.size)
                    have n1_am := eq_true (show 0 ≤ am by omega)
                    have n2_am := eq_true (show am < (d.size : Int) by omega)
                    have P_pz2 := Aside0.mk (⟨by omega, by omega⟩ : pz2.toNat = p2 ∧ p2 < d.size)
                    have n1_pz2 := eq_true (show 0 ≤ pz2 by omega)
                    have n2_pz2 := eq_true (show pz2 < (d.size : Int) by omega)
                    clear h1_ h2_ h3_ h4_ h5_ h6_ ham ha0
                    obtain ⟨xa, hxa⟩ : ∃ xa, xa = d3[a1 - 1]! := ⟨_, rfl⟩
                    have X_xa := Aside0.mk hxa
                    clear hxa
                    have C_xa := Aside0.mk (show wc.drew.cell? ⟨g, am.toNat, none⟩ = some (.int .u64 xa) by rw [P_am.out.1, X_xa.out]; exact SR.out.drew.cell (a1 - 1) (by rw [HD3.out]; exact P_am.out.2))
                    obtain ⟨xp, hxp⟩ : ∃ xp, xp = d3[p2]! := ⟨_, rfl⟩
                    have X_xp := Aside0.mk hxp
                    clear hxp
                    have C_xp := Aside0.mk (show wc.drew.cell? ⟨g, pz2.toNat, none⟩ = some (.int .u64 xp) by rw [P_pz2.out.1, X_xp.out]; exact SR.out.drew.cell (p2) (by rw [HD3.out]; exact P_pz2.out.2))
                    obtain ⟨lb, hlb⟩ : ∃ lb, lb = ltInt xa xp := ⟨_, rfl⟩
                    have LB := Aside0.mk hlb
                    clear hlb
                    go_wp2
                    refine start_ (n := 15) (S := fun w' => w'.cell? ⟨g, am.toNat, none⟩ = some (.int .u64 xa) ∧ w'.cell? ⟨g, pz2.toNat, none⟩ = some (.int .u64 xp)) (ds := []) #[false, false, false, false, false, false, false, false, false, false, false, false, false, false, false] (by kernel_rfl) rfl rfl ⟨C_xa.out, C_xp.out⟩ (fun hHeld => ?_)
                    refine pure_ (i := 0) (N := some 73) (v := ?_) (a' := ?_) #[true, false, false, false, false, false, false, false, false, false, false, false, false, false, false] rfl rfl (by kernel_rfl) (fun _ _ _ h => h) (Or.inl ⟨by rfl, ?_⟩) ?_ ?_
                    rotate_left
                    · intro w'
                      go_simp
                      with_reducible rfl
                    rotate_left
                    · simp only [Act.put, List.setIfInBounds_toArray, List.set_cons_zero, List.set_cons_succ, i64_w, i32_w]
                      rfl
                    refine pure_ (i := 1) (N := some 74) (v := ?_) (a' := ?_) #[true, true, false, false, false, false, false, false, false, false, false, false, false, false, false] rfl rfl (by kernel_rfl) (fun _ _ _ h => h) (Or.inl ⟨by rfl, ?_⟩) ?_ ?_
                    rotate_left
                    · intro w'
                      go_simp
                      with_reducible rfl
                    rotate_left
                    · simp only [Act.put, List.setIfInBounds_toArray, List.set_cons_zero, List.set_cons_succ, i64_w, i32_w]
                      rfl
                    refine pure_ (i := 2) (N := some 75) (v := ?_) (a' := ?_) #[true, true, true, false, false, false, false, false, false, false, false, false, false, false, false] rfl rfl (by kernel_rfl) (fun _ _ _ h => h) (Or.inl ⟨by rfl, ?_⟩) ?_ ?_
                    rotate_left
                    · intro w'
                      go_simp
                      with_reducible rfl
                    rotate_left
                    · simp only [Act.put, List.setIfInBounds_toArray, List.set_cons_zero, List.set_cons_succ, i64_w, i32_w]
                      rfl
                    refine pure_ (i := 3) (N := some 76) (v := ?_) (a' := ?_) #[true, true, true, true, false, false, false, false, false, false, false, false, false, false, false] rfl rfl (by kernel_rfl) (fun _ _ _ h => h) (Or.inl ⟨by rfl, ?_⟩) ?_ ?_
                    rotate_left
                    · intro w'
                      go_simp
                      with_reducible rfl
                    rotate_left
                    · simp only [Act.put, List.setIfInBounds_toArray, List.set_cons_zero, List.set_cons_succ, i64_w, i32_w]
                      rfl
                    refine pure_ (i := 4) (N := some 77) (v := ?_) (a' := ?_) #[true, true, true, true, true, false, false, false, false, false, false, false, false, false, false] rfl rfl (by kernel_rfl) (fun _ _ _ h => h) (Or.inl ⟨by rfl, ?_⟩) ?_ ?_
                    rotate_left
                    · intro w'
                      go_simp
                      with_reducible rfl
                    rotate_left
                    · simp only [Act.put, List.setIfInBounds_toArray, List.set_cons_zero, List.set_cons_succ, i64_w, i32_w]
                      rfl
                    refine pure_ (i := 5) (N := some 78) (v := ?_) (a' := ?_) #[true, true, true, true, true, true, false, false, false, false, false, false, false, false, false] rfl rfl (by kernel_rfl) (fun _ _ _ h => h) (Or.inl ⟨by rfl, ?_⟩) ?_ ?_
                    rotate_left
                    · intro w'
                      go_simp
                      with_reducible rfl
                    rotate_left
                    · simp only [Act.put, List.setIfInBounds_toArray, List.set_cons_zero, List.set_cons_succ, i64_w, i32_w]
                      rfl
                    refine pure_ (i := 6) (N := some 79) (v := ?_) (a' := ?_) #[true, true, true, true, true, true, true, false, false, false, false, false, false, false, false] rfl rfl (by kernel_rfl) (fun _ _ _ h => h) (Or.inl ⟨by rfl, ?_⟩) ?_ ?_
                    rotate_left
                    · intro w'
                      go_simp
                      with_reducible rfl
                    rotate_left
                    · simp only [Act.put, List.setIfInBounds_toArray, List.set_cons_zero, List.set_cons_succ, i64_w, i32_w]
                      rfl
                    refine pure_ (i := 8) (N := some 81) (v := ?_) (a' := ?_) #[true, true, true, true, true, true, true, false, true, false, false, false, false, false, false] rfl rfl (by kernel_rfl) (fun _ _ _ h => h) (Or.inl ⟨by rfl, ?_⟩) ?_ ?_
                    rotate_left
                    · intro w'
                      go_simp
                      with_reducible rfl
                    rotate_left
                    · simp only [Act.put, List.setIfInBounds_toArray, List.set_cons_zero, List.set_cons_succ, i64_w, i32_w]
                      rfl
                    refine pure_ (i := 9) (N := some 82) (v := ?_) (a' := ?_) #[true, true, true, true, true, true, true, false, true, true, false, false, false, false, false] rfl rfl (by kernel_rfl) (fun _ _ _ h => h) (Or.inl ⟨by rfl, ?_⟩) ?_ ?_
                    rotate_left
                    · intro w'
                      go_simp
                      with_reducible rfl
                    rotate_left
                    · simp only [Act.put, List.setIfInBounds_toArray, List.set_cons_zero, List.set_cons_succ, i64_w, i32_w]
                      rfl
                    refine pure_ (i := 10) (N := some 83) (v := ?_) (a' := ?_) #[true, true, true, true, true, true, true, false, true, true, true, false, false, false, false] rfl rfl (by kernel_rfl) (fun _ _ _ h => h) (Or.inl ⟨by rfl, ?_⟩) ?_ ?_
                    rotate_left
                    · intro w'
                      go_simp
                      with_reducible rfl
                    rotate_left
                    · simp only [Act.put, List.setIfInBounds_toArray, List.set_cons_zero, List.set_cons_succ, i64_w, i32_w]
                      rfl
                    refine take_ (i := 7) (N := some 80) (v := ?_) (a' := ?_) #[true, true, true, true, true, true, true, true, true, true, true, false, false, false, false] rfl rfl (by kernel_rfl) (fun _ _ _ h => h) (Or.inl ⟨by rfl, ?_⟩) hHeld ?_ ?_
                    rotate_left
                    · rintro w' ⟨s0, s1⟩
                      go_simp
                      with_reducible rfl
                    rotate_left
                    · simp only [Act.put, List.setIfInBounds_toArray, List.set_cons_zero, List.set_cons_succ, i64_w, i32_w]
                      rfl
                    refine take_ (i := 11) (N := some 84) (v := ?_) (a' := ?_) #[true, true, true, true, true, true, true, true, true, true, true, true, false, false, false] rfl rfl (by kernel_rfl) (fun _ _ _ h => h) (Or.inl ⟨by rfl, ?_⟩) hHeld ?_ ?_
                    rotate_left
                    · rintro w' ⟨s0, s1⟩
                      go_simp
                      with_reducible rfl
                    rotate_left
                    · simp only [Act.put, List.setIfInBounds_toArray, List.set_cons_zero, List.set_cons_succ, i64_w, i32_w]
                      rfl
                    refine one_ (i := 12) (N := some 85) #[true, true, true, true, true, true, true, true, true, true, true, true, true, false, false] rfl rfl (by kernel_rfl) (by decide) (fun K hK => ?_)
                    refine goes_ Try.func45 (by kernel_rfl) rfl #[.int .u64 xa, .int .u64 xp] (by rfl) rfl rfl (by simp only [List.map_toArray, List.map_cons, List.map_nil]; rfl) ?_
                    with_reducible refine (Less64.as xa xp _ lb ⟨LB.out⟩).mono ?_
                    rintro e w4 ⟨rfl, hbq⟩
                    refine ⟨_, rfl, ?_⟩
                    have mSR_ := Aside0.mk (SR.out.drew.below hbq)
                    clear SR
                    have SR := mSR_
                    clear mSR_
                    refine hK.out _ _ ⟨((hbq.cell (World.block_lt_of_cell? _ _ hHeld.1)).trans hHeld.1), ((hbq.cell (World.block_lt_of_cell? _ _ hHeld.2)).trans hHeld.2)⟩ (fun hHeld => ?_)
                    clear hK K
                    refine norm_ (a' := ?_) ?_ ?_
                    rotate_left
                    · show Act.put _ (some 85) _ = _
                      simp only [Act.put, List.setIfInBounds_toArray, List.set_cons_zero, List.set_cons_succ, i64_w, i32_w]
                      rfl
                    refine pure_ (i := 13) (N := some 86) (v := ?_) (a' := ?_) #[true, true, true, true, true, true, true, true, true, true, true, true, true, true, false] rfl rfl (by kernel_rfl) (fun _ _ _ h => h) (Or.inl ⟨by rfl, ?_⟩) ?_ ?_
                    rotate_left
                    · intro w'
                      go_simp
                      with_reducible rfl
                    rotate_left
                    · simp only [Act.put, List.setIfInBounds_toArray, List.set_cons_zero, List.set_cons_succ, i64_w, i32_w]
                      rfl
                    refine pure_ (i := 14) (N := some 87) (v := ?_) (a' := ?_) #[true, true, true, true, true, true, true, true, true, true, true, true, true, true, true] rfl rfl (by kernel_rfl) (fun _ _ _ h => h) (Or.inl ⟨by rfl, ?_⟩) ?_ ?_
                    rotate_left
                    · intro w'
                      go_simp
                      with_reducible rfl
                    rotate_left
                    · simp only [Act.put, List.setIfInBounds_toArray, List.set_cons_zero, List.set_cons_succ, i64_w, i32_w]
                      rfl
                    refine done_ (by kernel_rfl) ?_
                    have T_lb := LB
                    clear LB hbq C_xa C_xp
                    cases lb
                    · obtain ⟨mid, d4, hx⟩ : ∃ mid d4, partitionEqual ltInt d3 a1 b1 p2 = (mid, d4) := ⟨_, _, rfl⟩
                      have XQ := ScanEqP.mk hx
                      obtain ⟨mz, hmz⟩ : ∃ mz : Int, mz = (mid : Int) := ⟨_, rfl⟩
                      have MZ := Aside0.mk hmz
                      clear hmz
                      have RE := round_eq swoI (partitionEqual_holds ltInt) A0.out PR2.out.1 PR2.out.2 B3.out BE3.out (by rw [← X_xa.out, ← X_xp.out]; exact T_lb.out.symm) hx
                      have RE_ := RoundEq.mk RE
                      clear hx RE
                      go_wp2_with (first | (go_at_call 46; have h_ := partitionEqual64.calls _ g cap tl d3 a1 b1 p2 az bz pz2 hza hzb PZ2 ⟨SR.out.self⟩ ⟨by rw [HD3.out]; have := RNG.out; have := hbb.out; omega⟩ PR2 ⟨by rw [HD3.out]; exact hsz.out⟩; rw [HD3.out] at h_; rw [XQ.eq] at h_; dsimp only at h_; rw [← MZ.out] at h_; refine h_.mono ?_; clear h_; rintro e w5 ⟨rfl, hs, hr⟩; have H4 := Aside0.mk hs; have SR_ := Aside0.mk (SR.out.then_ hr); clear SR; have SR := SR_; clear SR_; clear hs hr))
                      go_roundg k1
                      case measure => exact Nat.lt_succ_self _
                      case rel => exact ⟨_, _, _, _, _, mid, b1, d4, rfl, rfl, rfl, rfl, rfl, MZ, hzb, LM2, ⟨by have := RNG.out; have := RE_.out.1; have := RE_.out.2.1; omega⟩, ⟨by have := hk.out; have := RE_.out.1; have := LEN.out; omega⟩, ⟨RE_.out.2.2.2.1, fun R hr1 hr2 => by obtain ⟨u1, u2⟩ := RE_.out.2.2.2.2 R hr1 hr2; exact IS.fin R (permIn_trans _ _ _ a1 b1 P3.out u1) u2⟩, H4, SR⟩
                    · obtain ⟨mid, ap, d4, hx⟩ : ∃ mid ap d4, partition ltInt d3 a1 b1 p2 = (mid, ap, d4) := ⟨_, _, _, rfl⟩
                      have XQ := ScanEqP.mk hx
                      have RP := RoundPart.mk (round_part swoI (partition_holds ltInt) PR2.out.1 PR2.out.2 B3.out BE3.out hx)
                      clear hx
                      have h1_ := hza.out
                      have h2_ := hzb.out
                      have h3_ := RNG.out
                      have h4_ := hbb.out
                      have h5_ := hsz.out
                      have h6_ := RP.h1
                      have h7_ := RP.h2
                      obtain ⟨mz, hmz0⟩ : ∃ mz : Int, mz = (mid : Int) := ⟨_, rfl⟩
                      obtain ⟨lf, hlf⟩ : ∃ lf : Int, lf = mz - az := ⟨_, rfl⟩
                      obtain ⟨rg, hrg⟩ : ∃ rg : Int, rg = bz - mz := ⟨_, rfl⟩
                      have wlf_ : wrap64 (mz - az) = lf := by unfold wrap64; omega
                      have wrg_ : wrap64 (bz - mz) = rg := by unfold wrap64; omega
                      have wmp_ : wrap64 (mz + 1) = mz + 1 := by unfold wrap64; omega
                      have LF := Aside0.mk (show lf = ((mid - a1 : Nat) : Int) ∧ rg = ((b1 - mid : Nat) : Int) by omega)
                      have MZ := Aside0.mk hmz0
                      clear h1_ h2_ h3_ h4_ h5_ h6_ h7_ hlf hrg hmz0
                      by_cases hlr : mid - a1 < b1 - mid
                      · have clr : decide (lf < rg) = true := decide_eq_true (by have := LF.out; omega)
                        clear hlr
                        go_wp2_with (first | (go_at_call 47; have h_ := partition64.calls _ g cap tl d3 a1 b1 p2 az bz pz2 hza hzb PZ2 ⟨SR.out.self⟩ ⟨by rw [HD3.out]; have := RNG.out; have := hbb.out; omega⟩ PR2 ⟨by rw [HD3.out]; exact hsz.out⟩; rw [HD3.out] at h_; rw [XQ.eq] at h_; dsimp only at h_; rw [← MZ.out] at h_; refine h_.mono ?_; clear h_; rintro e w5 ⟨rfl, hs, hr⟩; have H4 := Aside0.mk hs; have SR_ := Aside0.mk (SR.out.then_ hr); clear SR; have SR := SR_; clear SR_; clear hs hr) | (go_at_call 32; have h_ := ih _ g cap tl d4 a1 mid az mz lm2 hza MZ ⟨SR.out.self⟩ ⟨by rw [H4.out]; have := RP.h1; have := RP.h2; have := RNG.out; have := hbb.out; have := LEN.out; have := hN; omega⟩ ⟨by have := RP.h1; have := RP.h2; have := RNG.out; have := hbb.out; have := LEN.out; have := hN; omega⟩ ⟨RP.bl⟩ LM2 ⟨by rw [H4.out]; exact hsz.out⟩ (by have := RP.h1; have := RP.h2; have := RNG.out; have := hbb.out; have := LEN.out; have := hN; omega); rw [H4.out] at h_; refine h_.mono ?_; clear h_; rintro e w6 ⟨L, rfl, hp, hs, hl, hr⟩; have PL := Aside0.mk hp; have SL := Aside0.mk hs; have HL := Aside0.mk hl; have SR_ := Aside0.mk (SR.out.then_ hr); clear SR; have SR := SR_; clear SR_; clear hp hs hl hr))
                        obtain ⟨u1, u2⟩ := RP.left L PL.out SL.out
                        have U1 := Aside0.mk u1
                        have U2 := Aside0.mk u2
                        clear u1 u2
                        go_roundg k1
                        case measure => exact Nat.lt_succ_self _
                        case rel => exact ⟨_, _, _, _, _, mid + 1, b1, L, rfl, rfl, rfl, rfl, rfl, ⟨by have := MZ.out; omega⟩, hzb, LM2, ⟨by have := RNG.out; have := RP.h1; have := RP.h2; omega⟩, ⟨by have := hk.out; have := RP.h1; have := RP.h2; omega⟩, ⟨U1.out, fun R hr1 hr2 => by obtain ⟨t1, t2⟩ := U2.out R hr1 hr2; exact IS.fin R (permIn_trans _ _ _ a1 b1 P3.out t1) t2⟩, HL, SR⟩
                      · have clr : decide (lf < rg) = false := decide_eq_false (by have := LF.out; omega)
                        clear hlr
                        go_wp2_with (first | (go_at_call 47; have h_ := partition64.calls _ g cap tl d3 a1 b1 p2 az bz pz2 hza hzb PZ2 ⟨SR.out.self⟩ ⟨by rw [HD3.out]; have := RNG.out; have := hbb.out; omega⟩ PR2 ⟨by rw [HD3.out]; exact hsz.out⟩; rw [HD3.out] at h_; rw [XQ.eq] at h_; dsimp only at h_; rw [← MZ.out] at h_; refine h_.mono ?_; clear h_; rintro e w5 ⟨rfl, hs, hr⟩; have H4 := Aside0.mk hs; have SR_ := Aside0.mk (SR.out.then_ hr); clear SR; have SR := SR_; clear SR_; clear hs hr) | (go_at_call 32; have h_ := ih _ g cap tl d4 (mid + 1) b1 (mz + 1) bz lm2 ⟨by have := MZ.out; omega⟩ hzb ⟨SR.out.self⟩ ⟨by rw [H4.out]; have := RP.h1; have := RP.h2; have := RNG.out; have := hbb.out; have := LEN.out; have := hN; omega⟩ ⟨by have := RP.h1; have := RP.h2; have := RNG.out; have := hbb.out; have := LEN.out; have := hN; omega⟩ ⟨RP.br⟩ LM2 ⟨by rw [H4.out]; exact hsz.out⟩ (by have := RP.h1; have := RP.h2; have := RNG.out; have := hbb.out; have := LEN.out; have := hN; omega); rw [H4.out] at h_; refine h_.mono ?_; clear h_; rintro e w6 ⟨L, rfl, hp, hs, hl, hr⟩; have PL := Aside0.mk hp; have SL := Aside0.mk hs; have HL := Aside0.mk hl; have SR_ := Aside0.mk (SR.out.then_ hr); clear SR; have SR := SR_; clear SR_; clear hp hs hl hr))
                        obtain ⟨u1, u2⟩ := RP.right L PL.out SL.out
                        have U1 := Aside0.mk u1
                        have U2 := Aside0.mk u2
                        clear u1 u2
                        go_roundg k1
                        case measure => exact Nat.lt_succ_self _
                        case rel => exact ⟨_, _, _, _, _, a1, mid, L, rfl, rfl, rfl, rfl, rfl, hza, MZ, LM2, ⟨by have := RNG.out; have := RP.h1; have := RP.h2; omega⟩, ⟨by have := hk.out; have := RP.h1; have := RP.h2; omega⟩, ⟨U1.out, fun R hr1 hr2 => by obtain ⟨t1, t2⟩ := U2.out R hr1 hr2; exact IS.fin R (permIn_trans _ _ _ a1 b1 P3.out t1) t2⟩, HL, SR⟩
                  · have c17 : decide (az > 0) = false := decide_eq_false (by have := hza.out; omega)
                    clear ha0
                    go_wp2
                    refine start_ (n := 15) (S := fun w' => True) (ds := []) #[false, false, false, false, false, false, false, false, false, false, false, false, false, false, false] (by kernel_rfl) rfl rfl trivial (fun hHeld => ?_)
                    refine pure_ (i := 0) (N := some 73) (v := ?_) (a' := ?_) #[true, false, false, false, false, false, false, false, false, false, false, false, false, false, false] rfl rfl (by kernel_rfl) (fun _ _ _ h => h) (Or.inl ⟨by rfl, ?_⟩) ?_ ?_
                    rotate_left
                    · intro w'
                      go_simp
                      with_reducible rfl
                    rotate_left
                    · simp only [Act.put, List.setIfInBounds_toArray, List.set_cons_zero, List.set_cons_succ, i64_w, i32_w]
                      rfl
                    refine pure_ (i := 1) (N := some 74) (v := ?_) (a' := ?_) #[true, true, false, false, false, false, false, false, false, false, false, false, false, false, false] rfl rfl (by kernel_rfl) (fun _ _ _ h => h) (Or.inl ⟨by rfl, ?_⟩) ?_ ?_
                    rotate_left
                    · intro w'
                      go_simp
                      with_reducible rfl
                    rotate_left
                    · simp only [Act.put, List.setIfInBounds_toArray, List.set_cons_zero, List.set_cons_succ, i64_w, i32_w]
                      rfl
                    refine pure_ (i := 2) (N := some 75) (v := ?_) (a' := ?_) #[true, true, true, false, false, false, false, false, false, false, false, false, false, false, false] rfl rfl (by kernel_rfl) (fun _ _ _ h => h) (Or.inl ⟨by rfl, ?_⟩) ?_ ?_
                    rotate_left
                    · intro w'
                      go_simp
                      with_reducible rfl
                    rotate_left
                    · simp only [Act.put, List.setIfInBounds_toArray, List.set_cons_zero, List.set_cons_succ, i64_w, i32_w]
                      rfl
                    refine pure_ (i := 3) (N := some 76) (v := undef) (a' := ?_) #[true, true, true, true, false, false, false, false, false, false, false, false, false, false, false] rfl rfl (by kernel_rfl) (fun _ _ _ h => h) (Or.inr ⟨by rfl, rfl⟩) ?_ ?_
                    rotate_left
                    · simp only [Act.put, List.setIfInBounds_toArray, List.set_cons_zero, List.set_cons_succ, i64_w, i32_w]
                      rfl
                    refine pure_ (i := 4) (N := some 77) (v := undef) (a' := ?_) #[true, true, true, true, true, false, false, false, false, false, false, false, false, false, false] rfl rfl (by kernel_rfl) (fun _ _ _ h => h) (Or.inr ⟨by rfl, rfl⟩) ?_ ?_
                    rotate_left
                    · simp only [Act.put, List.setIfInBounds_toArray, List.set_cons_zero, List.set_cons_succ, i64_w, i32_w]
                      rfl
                    refine pure_ (i := 5) (N := some 78) (v := undef) (a' := ?_) #[true, true, true, true, true, true, false, false, false, false, false, false, false, false, false] rfl rfl (by kernel_rfl) (fun _ _ _ h => h) (Or.inr ⟨by rfl, rfl⟩) ?_ ?_
                    rotate_left
                    · simp only [Act.put, List.setIfInBounds_toArray, List.set_cons_zero, List.set_cons_succ, i64_w, i32_w]
                      rfl
                    refine pure_ (i := 6) (N := some 79) (v := undef) (a' := ?_) #[true, true, true, true, true, true, true, false, false, false, false, false, false, false, false] rfl rfl (by kernel_rfl) (fun _ _ _ h => h) (Or.inr ⟨by rfl, rfl⟩) ?_ ?_
                    rotate_left
                    · simp only [Act.put, List.setIfInBounds_toArray, List.set_cons_zero, List.set_cons_succ, i64_w, i32_w]
                      rfl
                    refine pure_ (i := 7) (N := some 80) (v := undef) (a' := ?_) #[true, true, true, true, true, true, true, true, false, false, false, false, false, false, false] rfl rfl (by kernel_rfl) (fun _ _ _ h => h) (Or.inr ⟨by rfl, rfl⟩) ?_ ?_
                    rotate_left
                    · simp only [Act.put, List.setIfInBounds_toArray, List.set_cons_zero, List.set_cons_succ, i64_w, i32_w]
                      rfl
                    refine pure_ (i := 8) (N := some 81) (v := undef) (a' := ?_) #[true, true, true, true, true, true, true, true, true, false, false, false, false, false, false] rfl rfl (by kernel_rfl) (fun _ _ _ h => h) (Or.inr ⟨by rfl, rfl⟩) ?_ ?_
                    rotate_left
                    · simp only [Act.put, List.setIfInBounds_toArray, List.set_cons_zero, List.set_cons_succ, i64_w, i32_w]
                      rfl
                    refine pure_ (i := 9) (N := some 82) (v := undef) (a' := ?_) #[true, true, true, true, true, true, true, true, true, true, false, false, false, false, false] rfl rfl (by kernel_rfl) (fun _ _ _ h => h) (Or.inr ⟨by rfl, rfl⟩) ?_ ?_
                    rotate_left
                    · simp only [Act.put, List.setIfInBounds_toArray, List.set_cons_zero, List.set_cons_succ, i64_w, i32_w]
                      rfl
                    refine pure_ (i := 10) (N := some 83) (v := undef) (a' := ?_) #[true, true, true, true, true, true, true, true, true, true, true, false, false, false, false] rfl rfl (by kernel_rfl) (fun _ _ _ h => h) (Or.inr ⟨by rfl, rfl⟩) ?_ ?_
                    rotate_left
                    · simp only [Act.put, List.setIfInBounds_toArray, List.set_cons_zero, List.set_cons_succ, i64_w, i32_w]
                      rfl
                    refine pure_ (i := 11) (N := some 84) (v := undef) (a' := ?_) #[true, true, true, true, true, true, true, true, true, true, true, true, false, false, false] rfl rfl (by kernel_rfl) (fun _ _ _ h => h) (Or.inr ⟨by rfl, rfl⟩) ?_ ?_
                    rotate_left
                    · simp only [Act.put, List.setIfInBounds_toArray, List.set_cons_zero, List.set_cons_succ, i64_w, i32_w]
                      rfl
                    refine pure_ (i := 12) (N := some 85) (v := undef) (a' := ?_) #[true, true, true, true, true, true, true, true, true, true, true, true, true, false, false] rfl rfl (by kernel_rfl) (fun _ _ _ h => h) (Or.inr ⟨by rfl, rfl⟩) ?_ ?_
                    rotate_left
                    · simp only [Act.put, List.setIfInBounds_toArray, List.set_cons_zero, List.set_cons_succ, i64_w, i32_w]
                      rfl
                    refine pure_ (i := 13) (N := some 86) (v := undef) (a' := ?_) #[true, true, true, true, true, true, true, true, true, true, true, true, true, true, false] rfl rfl (by kernel_rfl) (fun _ _ _ h => h) (Or.inr ⟨by rfl, rfl⟩) ?_ ?_
                    rotate_left
                    · simp only [Act.put, List.setIfInBounds_toArray, List.set_cons_zero, List.set_cons_succ, i64_w, i32_w]
                      rfl
                    refine pure_ (i := 14) (N := some 87) (v := ?_) (a' := ?_) #[true, true, true, true, true, true, true, true, true, true, true, true, true, true, true] rfl rfl (by kernel_rfl) (fun _ _ _ h => h) (Or.inl ⟨by rfl, ?_⟩) ?_ ?_
                    rotate_left
                    · intro w'
                      go_simp
                      with_reducible rfl
                    rotate_left
                    · simp only [Act.put, List.setIfInBounds_toArray, List.set_cons_zero, List.set_cons_succ, i64_w, i32_w]
                      rfl
                    refine done_ (by kernel_rfl) ?_
                    have SR_ := Aside0.mk SR.out.drew
                    clear SR
                    have SR := SR_
                    clear SR_
                    obtain ⟨w4, hw4⟩ : ∃ w4, w4 = wc.drew := ⟨_, rfl⟩
                    rw [← hw4] at SR ⊢
                    clear hw4
                    obtain ⟨mid, ap, d4, hx⟩ : ∃ mid ap d4, partition ltInt d3 a1 b1 p2 = (mid, ap, d4) := ⟨_, _, _, rfl⟩
                    have XQ := ScanEqP.mk hx
                    have RP := RoundPart.mk (round_part swoI (partition_holds ltInt) PR2.out.1 PR2.out.2 B3.out BE3.out hx)
                    clear hx
                    have h1_ := hza.out
                    have h2_ := hzb.out
                    have h3_ := RNG.out
                    have h4_ := hbb.out
                    have h5_ := hsz.out
                    have h6_ := RP.h1
                    have h7_ := RP.h2
                    obtain ⟨mz, hmz0⟩ : ∃ mz : Int, mz = (mid : Int) := ⟨_, rfl⟩
                    obtain ⟨lf, hlf⟩ : ∃ lf : Int, lf = mz - az := ⟨_, rfl⟩
                    obtain ⟨rg, hrg⟩ : ∃ rg : Int, rg = bz - mz := ⟨_, rfl⟩
                    have wlf_ : wrap64 (mz - az) = lf := by unfold wrap64; omega
                    have wrg_ : wrap64 (bz - mz) = rg := by unfold wrap64; omega
                    have wmp_ : wrap64 (mz + 1) = mz + 1 := by unfold wrap64; omega
                    have LF := Aside0.mk (show lf = ((mid - a1 : Nat) : Int) ∧ rg = ((b1 - mid : Nat) : Int) by omega)
                    have MZ := Aside0.mk hmz0
                    clear h1_ h2_ h3_ h4_ h5_ h6_ h7_ hlf hrg hmz0
                    by_cases hlr : mid - a1 < b1 - mid
                    · have clr : decide (lf < rg) = true := decide_eq_true (by have := LF.out; omega)
                      clear hlr
                      go_wp2_with (first | (go_at_call 47; have h_ := partition64.calls _ g cap tl d3 a1 b1 p2 az bz pz2 hza hzb PZ2 ⟨SR.out.self⟩ ⟨by rw [HD3.out]; have := RNG.out; have := hbb.out; omega⟩ PR2 ⟨by rw [HD3.out]; exact hsz.out⟩; rw [HD3.out] at h_; rw [XQ.eq] at h_; dsimp only at h_; rw [← MZ.out] at h_; refine h_.mono ?_; clear h_; rintro e w5 ⟨rfl, hs, hr⟩; have H4 := Aside0.mk hs; have SR_ := Aside0.mk (SR.out.then_ hr); clear SR; have SR := SR_; clear SR_; clear hs hr) | (go_at_call 32; have h_ := ih _ g cap tl d4 a1 mid az mz lm2 hza MZ ⟨SR.out.self⟩ ⟨by rw [H4.out]; have := RP.h1; have := RP.h2; have := RNG.out; have := hbb.out; have := LEN.out; have := hN; omega⟩ ⟨by have := RP.h1; have := RP.h2; have := RNG.out; have := hbb.out; have := LEN.out; have := hN; omega⟩ ⟨RP.bl⟩ LM2 ⟨by rw [H4.out]; exact hsz.out⟩ (by have := RP.h1; have := RP.h2; have := RNG.out; have := hbb.out; have := LEN.out; have := hN; omega); rw [H4.out] at h_; refine h_.mono ?_; clear h_; rintro e w6 ⟨L, rfl, hp, hs, hl, hr⟩; have PL := Aside0.mk hp; have SL := Aside0.mk hs; have HL := Aside0.mk hl; have SR_ := Aside0.mk (SR.out.then_ hr); clear SR; have SR := SR_; clear SR_; clear hp hs hl hr))
                      obtain ⟨u1, u2⟩ := RP.left L PL.out SL.out
                      have U1 := Aside0.mk u1
                      have U2 := Aside0.mk u2
                      clear u1 u2
                      go_roundg k1
                      case measure => exact Nat.lt_succ_self _
                      case rel => exact ⟨_, _, _, _, _, mid + 1, b1, L, rfl, rfl, rfl, rfl, rfl, ⟨by have := MZ.out; omega⟩, hzb, LM2, ⟨by have := RNG.out; have := RP.h1; have := RP.h2; omega⟩, ⟨by have := hk.out; have := RP.h1; have := RP.h2; omega⟩, ⟨U1.out, fun R hr1 hr2 => by obtain ⟨t1, t2⟩ := U2.out R hr1 hr2; exact IS.fin R (permIn_trans _ _ _ a1 b1 P3.out t1) t2⟩, HL, SR⟩
                    · have clr : decide (lf < rg) = false := decide_eq_false (by have := LF.out; omega)
                      clear hlr
                      go_wp2_with (first | (go_at_call 47; have h_ := partition64.calls _ g cap tl d3 a1 b1 p2 az bz pz2 hza hzb PZ2 ⟨SR.out.self⟩ ⟨by rw [HD3.out]; have := RNG.out; have := hbb.out; omega⟩ PR2 ⟨by rw [HD3.out]; exact hsz.out⟩; rw [HD3.out] at h_; rw [XQ.eq] at h_; dsimp only at h_; rw [← MZ.out] at h_; refine h_.mono ?_; clear h_; rintro e w5 ⟨rfl, hs, hr⟩; have H4 := Aside0.mk hs; have SR_ := Aside0.mk (SR.out.then_ hr); clear SR; have SR := SR_; clear SR_; clear hs hr) | (go_at_call 32; have h_ := ih _ g cap tl d4 (mid + 1) b1 (mz + 1) bz lm2 ⟨by have := MZ.out; omega⟩ hzb ⟨SR.out.self⟩ ⟨by rw [H4.out]; have := RP.h1; have := RP.h2; have := RNG.out; have := hbb.out; have := LEN.out; have := hN; omega⟩ ⟨by have := RP.h1; have := RP.h2; have := RNG.out; have := hbb.out; have := LEN.out; have := hN; omega⟩ ⟨RP.br⟩ LM2 ⟨by rw [H4.out]; exact hsz.out⟩ (by have := RP.h1; have := RP.h2; have := RNG.out; have := hbb.out; have := LEN.out; have := hN; omega); rw [H4.out] at h_; refine h_.mono ?_; clear h_; rintro e w6 ⟨L, rfl, hp, hs, hl, hr⟩; have PL := Aside0.mk hp; have SL := Aside0.mk hs; have HL := Aside0.mk hl; have SR_ := Aside0.mk (SR.out.then_ hr); clear SR; have SR := SR_; clear SR_; clear hp hs hl hr))
                      obtain ⟨u1, u2⟩ := RP.right L PL.out SL.out
                      have U1 := Aside0.mk u1
                      have U2 := Aside0.mk u2
                      clear u1 u2
                      go_roundg k1
                      case measure => exact Nat.lt_succ_self _
                      case rel => exact ⟨_, _, _, _, _, a1, mid, L, rfl, rfl, rfl, rfl, rfl, hza, MZ, LM2, ⟨by have := RNG.out; have := RP.h1; have := RP.h2; omega⟩, ⟨by have := hk.out; have := RP.h1; have := RP.h2; omega⟩, ⟨U1.out, fun R hr1 hr2 => by obtain ⟨t1, t2⟩ := U2.out R hr1 hr2; exact IS.fin R (permIn_trans _ _ _ a1 b1 P3.out t1) t2⟩, HL, SR⟩
theorem pdq_all : ∀ n, PdqCalls n
  | 0 => fun w g cap tl d a b az bz lm _ _ _ _ _ _ _ _ h => absurd h (Nat.not_lt_zero _)
  | n + 1 => pdq_step n (pdq_all n)
set_option maxHeartbeats 16000000 in
set_option maxRecDepth 100000 in
/-- slices.Sort at []uint64 sorts. -/
theorem Sort64.calls (w : World) (g cap : Nat) (tl : List Value) (d : Array Int) (hR : Aside0 (Srt w g tl d w)) (hsz : Aside0 (d.size ≤ 1152921504606846976)) :
    Calls Try.prog 25 #[.slice (some ⟨g, 0, none⟩) d.size cap] w fun e w' => ∃ d', e = .returned (.tuple #[]) ∧ PermIn 0 d.size d d' ∧ SortedIn ltInt 0 d.size d' ∧ d'.size = d.size ∧ Srt w g tl d' w' := by
  obtain ⟨nz, hnz⟩ : ∃ nz : Int, nz = ((d.size : Nat) : Int) := ⟨_, rfl⟩
  have NZ := Aside0.mk hnz
  have wu_ : IntKind.u64.wrap (d.size : Int) = nz := by have := hsz.out; rw [IntKind.wrap_u64]; omega
  have BL := Aside0.mk (show Lib.bitLen d.size ≤ 64 from Lib.bitLen_le _ 64 (by omega) (by have := hsz.out; omega))
  clear hnz
  go_enter Try.func25, Try.ntmps25
  go_wp2_with (first | (go_at_call 33; refine (Try.bits_Len nz _ (by have := NZ.out; omega) (by have := NZ.out; have := hsz.out; omega)).mono ?_; rintro e w1 ⟨rfl, rfl⟩; rw [show nz.toNat = d.size by have := NZ.out; omega]) | (go_at_call 32; refine (pdq_all (d.size + 1) _ g cap tl d 0 d.size 0 (d.size : Int) (Lib.bitLen d.size : Nat) ⟨rfl⟩ ⟨rfl⟩ hR ⟨Nat.le_refl _⟩ ⟨Nat.zero_le _⟩ ⟨.inl rfl⟩ ⟨by have := BL.out; omega⟩ hsz (by omega)).mono ?_; rintro e w2 ⟨d', rfl, hp, hs, hz, hr⟩; have HP := Aside0.mk hp; have HS := Aside0.mk hs; have HZ := Aside0.mk hz; have HR := Aside0.mk hr; clear hp hs hz hr))
  go_end0
  exact ⟨d', rfl, HP.out, HS.out, HZ.out, HR.out⟩
end Go.Proofs.Ytdhiljimmijghaa.FAll
