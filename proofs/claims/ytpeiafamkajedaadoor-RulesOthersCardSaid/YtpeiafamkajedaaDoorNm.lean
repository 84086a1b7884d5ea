/-
  scan.of and scan.Name, where the table of classes holds what its initialiser lays.
-/
import Derived.Test.YtpeiafamkajedaaDoorFAllx0
import Derived.Lib.LaidTab
namespace Go.Proofs.YtpeiafamkajedaaDoor.FAll
open Go.RowKit Go.Proofs.YtpeiafamkajedaaDoorW.PrintWords Go.Proofs.YtpeiafamkajedaaDoorW.PrintLast Go.Proofs.YtpeiafamkajedaaDoorW.PrintMore
set_option linter.unusedVariables false
set_option linter.unusedSimpArgs false
def classTab : List Int := [0, 0, 0, 0, 0, 0, 0, 0, 0, 32, 0, 0, 0, 0, 0, 0, 0, 0, 0, 0, 0, 0, 0, 0, 0, 0, 0, 0, 0, 0, 0, 0, 32, 0, 0, 0, 0, 0, 0, 0, 16, 16, 0, 4, 16, 4, 8, 0, 0, 0, 0, 0, 0, 0, 0, 0, 0, 0, 16, 16, 16, 16, 16, 0, 0, 0, 0, 0, 0, 0, 0, 0, 0, 0, 0, 0, 0, 0, 0, 0, 0, 0, 0, 0, 0, 0, 0, 0, 0, 0, 0, 16, 0, 16, 0, 1, 0, 0, 0, 0, 0, 0, 0, 0, 0, 0, 0, 0, 0, 0, 0, 0, 0, 0, 0, 0, 0, 0, 0, 0, 0, 0, 0, 16, 16, 16, 0, 0]
abbrev Tab (w : World) : Prop := Lib.TabIs Tryd.prog w "thicket/scan.classes" .u8 classTab
theorem gTab : Tryd.prog.globalNamed "thicket/scan.classes" = some 0 := by kernel_rfl
theorem tab_below {w w' : World} (h : Tab w) (hb : Below w.heap.size w w') : Tab w' := by
  unfold Tab Lib.TabIs World.var? at h ⊢
  rw [gTab] at h ⊢
  simp only [Option.bind_some] at h ⊢
  have hlt : 0 < w.heap.size := by
    rcases Nat.lt_or_ge 0 w.heap.size with h' | h'
    · exact h'
    · rw [Array.getElem?_eq_none h'] at h; cases h
  rw [hb.block 0 hlt]
  exact h

/-- The class of a byte. -/
def ofZ (c z : Int) : Int := if (97 ≤ c ∧ c ≤ 122) ∨ (65 ≤ c ∧ c ≤ 90) then 1 else if 48 ≤ c ∧ c ≤ 57 then 2 else if 127 < c then 0 else z
def ofC (c : Int) : Int := ofZ c (classTab.getD c.toNat 0)

set_option maxHeartbeats 8000000 in
set_option maxRecDepth 100000 in
theorem scan_of.high (c z r : Int) (hc0 : 127 < c) (H : Aside0 (ofZ c z = r)) (w : World) :
    Calls Tryd.prog 45 #[.int .u8 c] w fun e w' => e = .returned (.int .u8 r) ∧ Drawn0 w w' := by
  go_enter Tryd.func45, Tryd.ntmps45
  go_wp2
  all_goals first
    | (go_ret; refine ⟨congrArg (fun z => Ending.returned (Value.int .u8 z)) ?_, by repeat (first | exact Drawn0.refl _ | apply Drawn0.step)⟩; rw [← H.out]; unfold ofZ; (repeat' split) <;> first | rfl | omega)
    | (exfalso; simp_all; done) | (exfalso; simp_all; omega)
set_option maxHeartbeats 8000000 in
set_option maxRecDepth 100000 in
theorem scan_of.low (c z r : Int) (hc0 : 0 ≤ c) (hc1 : c ≤ 127) (w : World) (hcell : w.cell? ⟨0, c.toNat, none⟩ = some (.int .u8 z)) (H : Aside0 (ofZ c z = r)) :
    Calls Tryd.prog 45 #[.int .u8 c] w fun e w' => e = .returned (.int .u8 r) ∧ Drawn0 w w' := by
  have p1 : c < 128 := by omega
  have p2 : c.toNat < 128 := by omega
  go_enter Tryd.func45, Tryd.ntmps45
  go_wp2
  all_goals first
    | (go_ret; refine ⟨congrArg (fun z => Ending.returned (Value.int .u8 z)) ?_, by repeat (first | exact Drawn0.refl _ | apply Drawn0.step)⟩; rw [← H.out]; unfold ofZ; (repeat' split) <;> first | rfl | omega)
    | (exfalso; simp_all; done) | (exfalso; simp_all; omega)
theorem scan_of.calls (c : Int) (h0 : 0 ≤ c) (w : World) (ht : Tab w) : Calls Tryd.prog 45 #[.int .u8 c] w fun e w' => e = .returned (.int .u8 (ofC c)) ∧ Drawn0 w w' := by
  by_cases h : c ≤ 127
  · exact scan_of.low c _ _ h0 h w (Lib.TabIs.cell ht gTab c.toNat (by rw [show classTab.length = 128 from rfl]; omega)) ⟨rfl⟩
  · exact scan_of.high c _ _ (by omega) ⟨rfl⟩ w

/-- May a byte stand in a name? -/
def goodC (c : Int) : Bool := !(Go.bits .and .u8 (ofC c) 11 == 0) || c == 45
def NameB (s : ByteArray) : Prop := 1 ≤ s.size ∧ s.size ≤ 64 ∧ ∀ j, j < s.size → goodC (bt s (j : Int)) = true
instance (s : ByteArray) : Decidable (NameB s) := by unfold NameB; infer_instance

set_option maxHeartbeats 8000000 in
set_option maxRecDepth 100000 in
theorem scan_Name.calls (s : ByteArray) (r : Bool) (H : Aside0 (decide (NameB s) = r)) (w : World) (ht : Aside0 (Tab w)) : Calls Tryd.prog 25 #[.string s] w fun e w' => e = .returned (.bool r) ∧ Drawn0 w w' := by
  by_cases h1 : 1 ≤ s.size
  · by_cases h2 : s.size ≤ 64
    · have f1 : decide ((s.size : Int) < 1) = false := decide_eq_false (by omega)
      have f2 : decide (64 < (s.size : Int)) = false := decide_eq_false (by omega)
      have HS := Aside0.mk h1
      have HT := Aside0.mk h2
      clear h1 h2
      go_enter Tryd.func25, Tryd.ntmps25
      go_wp2
      go_loopg [14] (s.size + 1) (fun kq v14 w' => ∃ (x : Int) (n : Nat), v14 = .int .i64 x ∧ Aside0 (x = n) ∧ Aside0 (∀ j, j < n → goodC (bt s (j : Int)) = true) ∧ Aside0 (n ≤ s.size) ∧ Aside0 (s.size - n < kq) ∧ Drawn0 w w')
      case atStart => exact ⟨0, 0, rfl, ⟨rfl⟩, ⟨fun j hj => absurd hj (Nat.not_lt_zero _)⟩, ⟨Nat.zero_le _⟩, ⟨by omega⟩, by repeat (first | exact Drawn0.refl _ | apply Drawn0.step)⟩
      case round =>
        obtain ⟨x, n, rfl, hx, hg, hn, hk, ⟨⟨q, rfl⟩⟩⟩ := hrel
        cases gk with
        | zero => exact absurd hk.out (by omega)
        | succ k1 =>
          have hxx := hx.out
          have hnn := hn.out
          by_cases he : n = s.size
          · have c1 : decide (x < (s.size : Int)) = false := decide_eq_false (by omega)
            have hr : r = true := by
              rw [← H.out]
              exact decide_eq_true ⟨HS.out, HT.out, fun j hj => hg.out j (by omega)⟩
            subst hr
            clear hxx hnn he
            go_wp2
            go_ret
            exact ⟨rfl, by repeat (first | exact Drawn0.refl _ | apply Drawn0.step)⟩
          · have c1 : decide (x < (s.size : Int)) = true := decide_eq_true (by omega)
            have p4 : 0 ≤ x := by omega
            have q4 : x < (s.size : Int) := by omega
            have hx4 := bt_at s x
            have hb0 := Aside0.mk (show 0 ≤ bt s x by unfold bt; split <;> omega)
            have ex : bt s (n : Int) = bt s x := by rw [hxx]
            have hlt : n < s.size := by omega
            replace p4 := eq_true p4
            replace q4 := eq_true q4
            have EX := Aside0.mk ex
            have HLT := Aside0.mk hlt
            clear hxx hnn he ex hlt
            have next : goodC (bt s x) = true → ∀ j, j < n + 1 → goodC (bt s (j : Int)) = true := by
              intro h j hj
              by_cases e : j = n
              · subst e; rw [EX.out]; exact h
              · exact hg.out j (by omega)
            have NX := Aside0.mk next
            clear next
            by_cases b1 : Go.bits .and .u8 (ofC (bt s x)) 11 = 0
            · have d1 : (Go.bits .and .u8 (ofC (bt s x)) 11 == 0) = true := beq_iff_eq.mpr b1
              by_cases b2 : bt s x = 45
              · have d2 : (bt s x == 45) = true := beq_iff_eq.mpr b2
                have d3 : (bt s x != 45) = false := bne_eq_false_iff_eq.mpr b2
                have G := Aside0.mk (NX.out (by unfold goodC; rw [d1, d2]; rfl))
                clear b1 b2
                go_wp2_with (first | ((with_reducible refine gate_callee (f := 45) rfl ?_); refine goesL_ (some 20) rfl rfl Tryd.func45 (by kernel_rfl) rfl #[.int .u8 (bt s x)] rfl (by (try simp only [List.map_toArray, List.map_cons, List.map_nil]); first | done | rfl) ?_; (with_reducible refine (scan_of.calls (bt s x) hb0.out _ (tab_below ht.out (by repeat (first | exact Below.refl _ _ | apply below_drew1 | apply pw_below_drewN)))).mono ?_); rintro e w' ⟨rfl, ⟨nd, rfl⟩⟩; refine ⟨_, rfl, ?_⟩))
                go_roundg k1
                case measure => have := hk.out; omega
                case rel => exact ⟨_, n + 1, rfl, ⟨by have := hx.out; have := HLT.out; have := HT.out; unfold wrap64; omega⟩, G, ⟨HLT.out⟩, ⟨by have := hk.out; have := HLT.out; omega⟩, by repeat (first | exact Drawn0.refl _ | apply Drawn0.step)⟩
              · have d2 : (bt s x == 45) = false := beq_eq_false_iff_ne.mpr b2
                have d3 : (bt s x != 45) = true := bne_iff_ne.mpr b2
                have hr : r = false := by
                  rw [← H.out]
                  refine decide_eq_false fun h => ?_
                  have := h.2.2 n HLT.out
                  rw [EX.out] at this
                  unfold goodC at this
                  rw [d1, d2] at this
                  exact absurd this (by decide)
                subst hr
                clear b1 b2
                go_wp2_with (first | ((with_reducible refine gate_callee (f := 45) rfl ?_); refine goesL_ (some 20) rfl rfl Tryd.func45 (by kernel_rfl) rfl #[.int .u8 (bt s x)] rfl (by (try simp only [List.map_toArray, List.map_cons, List.map_nil]); first | done | rfl) ?_; (with_reducible refine (scan_of.calls (bt s x) hb0.out _ (tab_below ht.out (by repeat (first | exact Below.refl _ _ | apply below_drew1 | apply pw_below_drewN)))).mono ?_); rintro e w' ⟨rfl, ⟨nd, rfl⟩⟩; refine ⟨_, rfl, ?_⟩))
                go_ret
                exact ⟨rfl, by repeat (first | exact Drawn0.refl _ | apply Drawn0.step)⟩
            · have d1 : (Go.bits .and .u8 (ofC (bt s x)) 11 == 0) = false := beq_eq_false_iff_ne.mpr b1
              have G := Aside0.mk (NX.out (by unfold goodC; rw [d1]; rfl))
              clear b1
              go_wp2_with (first | ((with_reducible refine gate_callee (f := 45) rfl ?_); refine goesL_ (some 20) rfl rfl Tryd.func45 (by kernel_rfl) rfl #[.int .u8 (bt s x)] rfl (by (try simp only [List.map_toArray, List.map_cons, List.map_nil]); first | done | rfl) ?_; (with_reducible refine (scan_of.calls (bt s x) hb0.out _ (tab_below ht.out (by repeat (first | exact Below.refl _ _ | apply below_drew1 | apply pw_below_drewN)))).mono ?_); rintro e w' ⟨rfl, ⟨nd, rfl⟩⟩; refine ⟨_, rfl, ?_⟩))
              go_roundg k1
              case measure => have := hk.out; omega
              case rel => exact ⟨_, n + 1, rfl, ⟨by have := hx.out; have := HLT.out; have := HT.out; unfold wrap64; omega⟩, G, ⟨HLT.out⟩, ⟨by have := hk.out; have := HLT.out; omega⟩, by repeat (first | exact Drawn0.refl _ | apply Drawn0.step)⟩
    · have f1 : decide ((s.size : Int) < 1) = false := decide_eq_false (by omega)
      have f2 : decide (64 < (s.size : Int)) = true := decide_eq_true (by omega)
      have hr : r = false := by rw [← H.out]; exact decide_eq_false fun h => h2 h.2.1
      subst hr
      clear h1 h2
      go_enter Tryd.func25, Tryd.ntmps25
      go_wp2
      go_ret
      exact ⟨rfl, by repeat (first | exact Drawn0.refl _ | apply Drawn0.step)⟩
  · have f1 : decide ((s.size : Int) < 1) = true := decide_eq_true (by omega)
    have hr : r = false := by rw [← H.out]; exact decide_eq_false fun h => h1 h.1
    subst hr
    clear h1
    go_enter Tryd.func25, Tryd.ntmps25
    go_wp2
    go_ret
    exact ⟨rfl, by repeat (first | exact Drawn0.refl _ | apply Drawn0.step)⟩
end Go.Proofs.YtpeiafamkajedaaDoor.FAll
