/-
  math/bits.TrailingZeros64 over its laid table; bits.Lowest: the first bit that is in.
-/
import Derived.Shelf.Spec.TrailingZeros
import Derived.Test.YtdhiljimmijghaaDoorProg
import Derived.Test.YtdhiljimmijghaaDoorWz
namespace Go.Proofs.YtdhiljimmijghaaDoor.FAll
open Go.RowKit Go.Proofs.YtdhiljimmijghaaDoorW.PrintWords Go.Proofs.YtdhiljimmijghaaDoorW.PrintLast Go.Proofs.YtdhiljimmijghaaDoorW.PrintMore
set_option linter.unusedVariables false
set_option linter.unusedSimpArgs false
set_option maxHeartbeats 1000000 in
set_option maxRecDepth 100000 in
theorem tz64_core (x k idx : Nat) (w : World) (hx0 : ((x : Int) == 0) = false)
    (key : IntKind.u64.wrap (bits BinOp.and IntKind.u64 (x : Int) (IntKind.u64.wrap (-(x : Int))) * 285870213051353865) / 288230376151711744 = (idx : Int))
    (hi : idx < 64) (hk : k < 64) (hcell : w.cell? ⟨0, idx, none⟩ = some (.int .u8 k)) :
    Calls Tryd.prog 18 #[.int .u64 x] w fun e w' => e = .returned (.int .i64 k) ∧ w = w' := by
  go_enter Tryd.func18, Tryd.ntmps18
  go_wp2_with (simp only [key])
  go_ret
  exact ⟨rfl, rfl⟩
theorem tz64.calls (x : Nat) (hx0 : x ≠ 0) (hx : x < 18446744073709551616) (w : World) (hT : TabAt 0 Lib.deBruijn64tab w) :
    Calls Tryd.prog 18 #[.int .u64 x] w fun e w' => e = .returned (.int .i64 (Lib.ctz 64 x)) ∧ w = w' := by
  obtain ⟨hlow, hk⟩ := Lib.lowest_bit 64 x hx0 hx
  obtain ⟨hi, htab⟩ := Lib.deBruijn64_at _ hk
  have hcell := hT _ hi
  rw [htab] at hcell
  exact tz64_core x _ _ w (by simp; omega) (tz64_key x _ hx hx0 hlow) hi hk hcell
/-- The first bit that is in, from word i on (-1: none). -/
def lowV : List Int → Nat → Int
  | [], _ => -1
  | x :: r, i => if x = 0 then lowV r (i + 1) else 64 * i + Lib.ctz 64 x.toNat
set_option maxHeartbeats 1000000 in
set_option maxRecDepth 100000 in
theorem Lowest.calls (w : World) (A : Option Addr) (c : Nat) (l : List Int) (hl : Aside0 (Kd.C (Kd.int .u64) w A l.length l)) (hwf : Aside0 (∀ x ∈ l, 0 ≤ x ∧ x < 18446744073709551616)) (hsz : Aside0 (l.length ≤ 1048576)) (hT : Aside0 (TabAt 0 Lib.deBruijn64tab w)) :
    Calls Tryd.prog 8 #[.slice A l.length c] w fun e w' => e = .returned (.int .i64 (lowV l 0)) ∧ w = w' := by
  go_enter Tryd.func8, Tryd.ntmps8
  go_wp2_with (fail)
  go_loopg [7] (l.length + 1) (fun kq v7 w' => ∃ (x : Int) (n : Nat), v7 = .int .i64 x ∧ Aside0 (x = n) ∧ Aside0 (n ≤ l.length) ∧ Aside0 (l.length - n < kq) ∧ Aside0 (lowV (l.drop n) n = lowV l 0) ∧ w = w')
  case atStart => exact ⟨0, 0, rfl, ⟨rfl⟩, ⟨Nat.zero_le _⟩, ⟨by omega⟩, ⟨rfl⟩, rfl⟩
  case round =>
    obtain ⟨x, n, rfl, hx, hn, hk, hs, rfl⟩ := hrel
    cases gk with
    | zero => exact absurd hk.out (by omega)
    | succ k1 =>
      by_cases hend : l.length ≤ n
      · have cnd : decide (x < (l.length : Int)) = false := decide_eq_false (by have := hx.out; omega)
        have ST := Aside0.mk (show lowV l 0 = -1 by rw [← hs.out, List.drop_eq_nil_of_le hend]; rfl)
        clear hend
        go_wp2_with (fail)
        go_ret
        exact ⟨by rw [ST.out]; rfl, rfl⟩
      · have hlt : n < l.length := by omega
        have cnd : decide (x < (l.length : Int)) = true := decide_eq_true (by have := hx.out; omega)
        have p1 : 0 ≤ x := by have := hx.out; omega
        have p2 : x < (l.length : Int) := by have := hx.out; omega
        obtain ⟨ad, rfl, e1⟩ := Kd.at_int hl.out x p1 p2
        have hxx := hx.out
        obtain ⟨b, hbb⟩ : ∃ b, b = rd l x := ⟨_, rfl⟩
        rw [← hbb] at e1
        have hb2 : b = l[n] := by
          rw [hbb, hxx]
          unfold rd
          rw [Int.toNat_natCast, List.getD_eq_getElem?_getD, List.getElem?_eq_getElem hlt]
          rfl
        have hbw := hwf.out b (hb2 ▸ List.getElem_mem hlt)
        have ST := Aside0.mk (show (if b = 0 then lowV (l.drop (n + 1)) (n + 1) else 64 * n + Lib.ctz 64 b.toNat) = lowV l 0 by
          rw [← hs.out, List.drop_eq_getElem_cons hlt, hb2]; rfl)
        obtain ⟨bn, hbn⟩ : ∃ bn : Nat, b = bn := ⟨b.toNat, by omega⟩
        subst hbn
        have HLT := Aside0.mk hlt
        have BW := Aside0.mk hbw
        have wx_ : wrap64 (x + 1) = x + 1 := by have := hsz.out; unfold wrap64; omega
        have wm_ : wrap64 (64 * x) = 64 * x := by have := hsz.out; unfold wrap64; omega
        replace p1 := eq_true p1
        replace p2 := eq_true p2
        clear hb2 hlt hbb hxx hend hbw hn
        by_cases z : bn = 0
        · have d1 : ((bn : Int) != 0) = false := by simp [z]
          have ST2 := Aside0.mk (by have h := ST.out; rw [if_pos (by omega)] at h; exact h)
          clear z ST
          go_wp2_with (fail)
          go_roundg k1
          case measure => exact Nat.lt_succ_self _
          case rel => exact ⟨_, n + 1, rfl, ⟨by have := hx.out; omega⟩, ⟨by have := HLT.out; omega⟩, ⟨by have := hk.out; have := HLT.out; omega⟩, ST2, rfl⟩
        · have d1 : ((bn : Int) != 0) = true := by simp [z]
          have ST2 := Aside0.mk (by have h := ST.out; rw [if_neg (by omega), Int.toNat_natCast] at h; exact h)
          have Z := Aside0.mk z
          have CT := Aside0.mk (show Lib.ctz 64 bn < 64 from (Lib.lowest_bit 64 bn z (by have := BW.out; omega)).2)
          clear z ST
          go_wp2_with (first | (go_at_call 18; refine (tz64.calls bn Z.out (by have := BW.out; omega) _ hT.out).mono ?_; rintro e w1 ⟨rfl, rfl⟩))
          go_ret
          have e : wrap64 (64 * x + (Lib.ctz 64 bn : Int)) = 64 * (n : Int) + (Lib.ctz 64 bn : Int) := by
            have := CT.out
            have := HLT.out
            have := hsz.out
            have := hx.out
            unfold wrap64
            omega
          exact ⟨congrArg (fun z => Ending.returned (.int .i64 z)) (e.trans ST2.out), rfl⟩
end Go.Proofs.YtdhiljimmijghaaDoor.FAll
