/-
  Package limbs by hand: Add.
-/
import Derived.Test.YtpeiafamkajedaaDoorLm
namespace Go.Proofs.YtpeiafamkajedaaDoor.FAll
open Go.RowKit Go.Proofs.YtpeiafamkajedaaDoorW.PrintWords Go.Proofs.YtpeiafamkajedaaDoorW.PrintLast Go.Proofs.YtpeiafamkajedaaDoorW.PrintMore
set_option linter.unusedVariables false
set_option linter.unusedSimpArgs false
/-- The loop of Add: from place i on, so many places left, with what is carried. -/
def addG (a b : List Int) : Nat → Nat → Int → List Int → List Int
  | 0, _, c, o => o ++ [c % 4294967296]
  | d + 1, i, c, o =>
    let c1 := IntKind.u64.wrap (c + IntKind.u64.wrap (rd a (i : Int)))
    let c2 := if (i : Int) < (b.length : Int) then IntKind.u64.wrap (c1 + IntKind.u64.wrap (rd b (i : Int))) else c1
    addG a b d (i + 1) (c2 / 4294967296) (o ++ [(Go.bits .and .u64 c2 4294967295) % 4294967296])
/-- What Add answers. -/
def addL (a b : List Int) : List Int := if a.length < b.length then strip (addG b a b.length 0 0 []) else strip (addG a b a.length 0 0 [])

theorem R_room (w : World) (e : Nat) (cur : Array Value) (cap : Nat) (hc : cur.size = cap) (hm : cap ≤ maxLen) : Kd.R (Kd.int .u32) e (w.alloc (.cells cur e (0, 0))) w.heap.size (fun _ => True) (.slice (some ⟨w.heap.size, 0, none⟩) 0 cap) [] :=
  ⟨fun _ _ => trivial, [], ⟨rfl, .inr ⟨w.heap.size, cap, cur, rfl, Nat.le_refl _, blk_new _ _, Nat.zero_le _, hm, by rw [hc]; show cap = cap * 1; omega, by simp⟩⟩, Reps.none _ _⟩
theorem madeCells_one (v : Value) (n : Nat) : (madeCells #[v] n).size = n := by simp [madeCells]

theorem infoW : (Tryd.prog.info? 96).map (fun i => (i.zero, i.size, i.bytes)) = some (some (.int .u32 0), 1, 4) := by kernel_rfl
set_option maxHeartbeats 8000000 in
set_option maxRecDepth 100000 in
theorem limbs_Add.calls1 (A : Option Addr) (c : Nat) (a : List Int) (B : Option Addr) (d : Nat) (b : List Int) (w : World) (ha : Aside0 (Kd.C (Kd.int .u32) w A a.length a)) (hb : Aside0 (Kd.C (Kd.int .u32) w B b.length b)) (hl : Aside0 (a.length ≤ 10000000000000)) (q : b.length ≤ a.length) :
    Calls Tryd.prog 52 #[.slice A a.length c, .slice B b.length d] w fun e w' => ∃ R k, e = .returned (.slice R (strip (addG a b a.length 0 0 [])).length k) ∧ Kd.C (Kd.int .u32) w' R (strip (addG a b a.length 0 0 [])).length (strip (addG a b a.length 0 0 [])) ∧ k = (strip (addG a b a.length 0 0 [])).length ∧ WhereAt w w' R ∧ Below w.heap.size w w' := by
  have HB := Aside0.mk (Below.refl w.heap.size w)
  have q1 : decide ((a.length : Int) < (b.length : Int)) = false := decide_eq_false (by omega)
  have q2 : decide (a.length < b.length) = false := decide_eq_false (by omega)
  have w1 : wrap64 ((a.length : Int) + 1) = (a.length : Int) + 1 := by have := hl.out; unfold wrap64; omega
  have w2 : (0 : Int) ≤ (a.length : Int) + 1 := by omega
  have w3 : ((a.length : Int) + 1) * 4 ≤ 281474976710656 := by have := hl.out; omega
  have w4 : ((a.length : Int) + 1).toNat = a.length + 1 := by omega
  have w5 : ((a.length : Int) + 1) ≤ 70368744177664 := by have := hl.out; omega
  obtain ⟨i0, hi0, hzz⟩ := Option.map_eq_some_iff.1 infoW
  simp only [Prod.mk.injEq] at hzz
  obtain ⟨hz0, hz1, hz2⟩ := hzz
  have mk : ∀ W, (Instr.makeSlice 78 (.int .i64 0) (.int .i64 ((a.length : Int) + 1))).run Tryd.prog W = .ok (.slice (some ⟨W.heap.size, 0, none⟩) 0 (a.length + 1)) (W.alloc (.cells (madeCells #[.int .u32 0] (a.length + 1)) 96)) := by
    intro W
    have h := run_make (P := Tryd.prog) W 78 96 i0 (.int .u32 0) Tryd.underlying78 hi0 hz0 .i64 .i64 0 ((a.length : Int) + 1) (by omega) (by omega) (by rw [hz2]; omega) (by omega)
    rw [hz1, w4, Nat.mul_one] at h
    exact h
  clear hz0 hz1 hz2 hi0
  have Q := Aside0.mk q
  obtain ⟨T, hT⟩ : ∃ T, T = addG a b a.length 0 0 [] := ⟨_, rfl⟩
  rw [← hT]
  have HT := Aside0.mk hT.symm
  clear q hT
  go_enter Tryd.func52, Tryd.ntmps52
  go_wp2
  have HO := Aside0.mk (R_room w 96 (madeCells #[.int .u32 0] (a.length + 1)) (a.length + 1) (madeCells_one _ _) (by have := hl.out; unfold maxLen; omega))
  have HB := Aside0.mk (below_alloc (Below.refl w.heap.size w) (.cells (madeCells #[.int .u32 0] (a.length + 1)) 96))
  clear w1 w2 w3 w4 w5 q1 q2 mk
  go_loopg [5, 6, 21] (a.length + 1) (fun kq v5 v6 v21 w' => ∃ (o : List Int) (cc : Int) (x : Int) (n : Nat), v6 = .int .u64 cc ∧ v21 = .int .i64 x ∧ Aside0 (x = n) ∧ Aside0 (addG a b (a.length - n) n cc o = T) ∧ Aside0 (n ≤ a.length) ∧ Aside0 (o.length = n) ∧ Aside0 (a.length - n < kq) ∧ Aside0 (Kd.R (Kd.int .u32) 96 w' w.heap.size (fun _ => True) v5 o) ∧ Aside0 (Below w.heap.size w w'))
  case atStart => exact ⟨[], 0, 0, 0, rfl, rfl, ⟨rfl⟩, HT, ⟨Nat.zero_le _⟩, ⟨rfl⟩, ⟨by omega⟩, HO, HB⟩
  case round =>
    clear HO HB
    obtain ⟨o, cc, x, n, rfl, rfl, hx, hs, hn, hol, hk, HO, HB⟩ := hrel
    cases gk with
    | zero => exact absurd hk.out (by omega)
    | succ k1 =>
      have hxx := hx.out
      have hnn := hn.out
      obtain ⟨Ao, co, eo⟩ := Kd.R_slice HO.out
      subst eo
      by_cases hend : n = a.length
      · have cnd : decide (x < (a.length : Int)) = false := decide_eq_false (by omega)
        have hTT : T = o ++ [cc % 4294967296] := by rw [← hs.out, hend, Nat.sub_self]; rfl
        have TT := Aside0.mk hTT
        clear hxx hnn hend hTT
        go_wp2_with (first | ((with_reducible refine gate_builtin (b := .append) (xs := #[.tmp 50, .tmp 53]) rfl ?_); at_builtin; refine Kd.R_append (Kd.int .u32) (w0 := w) w.heap.size rfl (.tmp 50) (.tmp 53) 78 96 (.int .u32 0) 4 rfl Tryd.underlying78 infoW rfl (by decide) (by omega) (.slice Ao o.length co) o ((cc % 4294967296)) [.int .u32 ((cc % 4294967296))] (fun _ => True) (fun _ => False) rfl rfl ?aP (fun _ hk => hk.elim) ?aF ?aO ?aB ?aS ?aL ?_; (case aP => exact rfl); (case aB => exact (kB0 HB)); (case aF => exact (fun _ _ => trivial)); (case aO => exact (kR HO)); (case aS => exact (below_size (kB0 HB))); (case aL => have := hol.out; have := hn.out; have := hl.out; omega); intro v214 w12 ho hb_ hg hat; have n0_ := Aside0.mk hb_; have n1_ := Aside0.mk ho; clear HB HO; have HB := n0_; have HO := n1_; clear n0_ n1_; clear ho hb_ hg hat) | (go_at_call 49; obtain ⟨Aq, cq, eq_⟩ := Kd.R_slice HO.out; subst eq_; (with_reducible refine (limbs_trim.at Aq cq (o ++ [cc % 4294967296]) _ ?side1 ?side2).mono ?_); (case side1 => repeat (first | exact (Kd.R_reads' HO.out).2.2 | (with_reducible refine Kd.C_alloc ?_ _) | (with_reducible refine Kd.C_drewN ?_ _) | (with_reducible refine Kd.C_drew ?_))); (case side2 => exact (Kd.R_reads' HO.out).2.1); rintro e w6 ⟨rfl, hc, ⟨⟨nd, rfl⟩⟩⟩; have HC := Aside0.mk hc; clear hc))
        go_ret
        rw [TT.out]
        exact ⟨_, _, rfl, by repeat (first | exact HC.out | (with_reducible refine Kd.C_drewN ?_ _) | (with_reducible refine Kd.C_drew ?_)), rfl, R_where (kR HO), kB0 HB⟩
      · have cnd : decide (x < (a.length : Int)) = true := decide_eq_true (by omega)
        have p1 : 0 ≤ x := by omega
        have p2 : x < (a.length : Int) := by omega
        have hlt : n < a.length := by omega
        obtain ⟨ad, rfl, e1⟩ := Kd.at_int ha.out x p1 p2
        replace e1 := (HB.out.cell (World.block_lt_of_cell? w _ e1)).trans e1
        obtain ⟨c1v, hc1⟩ : ∃ c1v, IntKind.u64.wrap (cc + IntKind.u64.wrap (rd a x)) = c1v := ⟨_, rfl⟩
        replace p1 := eq_true p1
        replace p2 := eq_true p2
        have HLT := Aside0.mk hlt
        have XN := Aside0.mk hxx
        by_cases hb2 : x < (b.length : Int)
        · have cb1 : decide (x < (b.length : Int)) = true := decide_eq_true hb2
          have p3 : x < (b.length : Int) := hb2
          obtain ⟨bd, rfl, e2⟩ := Kd.at_int hb.out x (by omega) p3
          replace e2 := (HB.out.cell (World.block_lt_of_cell? w _ e2)).trans e2
          replace p3 := eq_true p3
          obtain ⟨c2v, hc2⟩ : ∃ c2v, IntKind.u64.wrap (c1v + IntKind.u64.wrap (rd b x)) = c2v := ⟨_, rfl⟩
          have ST := Aside0.mk (show addG a b (a.length - (n + 1)) (n + 1) (c2v / 4294967296) (o ++ [((Go.bits .and .u64 c2v 4294967295) % 4294967296)]) = T by
            rw [← hs.out, show a.length - n = (a.length - (n + 1)) + 1 by omega]
            conv => rhs; unfold addG
            simp only []
            rw [← hxx, if_pos hb2, hc1, hc2])
          clear hb2 hxx hnn hend hlt hs
          go_wp2_with (first | (go_at_call 50; refine (limbs_low.calls c2v _ _ rfl).mono ?_; rintro e w' ⟨rfl, ⟨⟨nd, rfl⟩⟩⟩) | (go_at_call 51; refine (limbs_high.calls c2v _ _ rfl).mono ?_; rintro e w' ⟨rfl, ⟨⟨nd, rfl⟩⟩⟩) | ((with_reducible refine gate_builtin (b := .append) (xs := #[.tmp 42, .tmp 45]) rfl ?_); at_builtin; refine Kd.R_append (Kd.int .u32) (w0 := w) w.heap.size rfl (.tmp 42) (.tmp 45) 78 96 (.int .u32 0) 4 rfl Tryd.underlying78 infoW rfl (by decide) (by omega) (.slice Ao o.length co) o (((Go.bits .and .u64 c2v 4294967295) % 4294967296)) [.int .u32 (((Go.bits .and .u64 c2v 4294967295) % 4294967296))] (fun _ => True) (fun _ => False) rfl rfl ?aP (fun _ hk => hk.elim) ?aF ?aO ?aB ?aS ?aL ?_; (case aP => exact rfl); (case aB => exact (kB0 HB)); (case aF => exact (fun _ _ => trivial)); (case aO => exact (kR HO)); (case aS => exact (below_size (kB0 HB))); (case aL => have := hol.out; have := hn.out; have := hl.out; omega); intro v214 w12 ho hb_ hg hat; have n0_ := Aside0.mk hb_; have n1_ := Aside0.mk ho; clear HB HO; have HB := n0_; have HO := n1_; clear n0_ n1_; clear ho hb_ hg hat))
          go_roundg k1
          case measure => have := hk.out; omega
          case rel => exact ⟨_, _, _, n + 1, rfl, rfl, ⟨by have := XN.out; have := HLT.out; have := hl.out; unfold wrap64; omega⟩, ST, ⟨HLT.out⟩, ⟨by have := hol.out; simp; omega⟩, ⟨by have := hk.out; have := HLT.out; omega⟩, ⟨kR HO⟩, ⟨kB0 HB⟩⟩
        · have cb1 : decide (x < (b.length : Int)) = false := decide_eq_false hb2
          obtain ⟨c2v, hc2⟩ : ∃ c2v, c1v = c2v := ⟨_, rfl⟩
          subst hc2
          obtain ⟨c2v, hc3⟩ : ∃ c2v, c2v = c1v := ⟨_, rfl⟩
          rw [← hc3] at hc1
          clear hc3
          have ST := Aside0.mk (show addG a b (a.length - (n + 1)) (n + 1) (c2v / 4294967296) (o ++ [((Go.bits .and .u64 c2v 4294967295) % 4294967296)]) = T by
            rw [← hs.out, show a.length - n = (a.length - (n + 1)) + 1 by omega]
            conv => rhs; unfold addG
            simp only []
            rw [← hxx, if_neg hb2, hc1])
          clear hb2 hxx hnn hend hlt hs
          go_wp2_with (first | (go_at_call 50; refine (limbs_low.calls c2v _ _ rfl).mono ?_; rintro e w' ⟨rfl, ⟨⟨nd, rfl⟩⟩⟩) | (go_at_call 51; refine (limbs_high.calls c2v _ _ rfl).mono ?_; rintro e w' ⟨rfl, ⟨⟨nd, rfl⟩⟩⟩) | ((with_reducible refine gate_builtin (b := .append) (xs := #[.tmp 42, .tmp 45]) rfl ?_); at_builtin; refine Kd.R_append (Kd.int .u32) (w0 := w) w.heap.size rfl (.tmp 42) (.tmp 45) 78 96 (.int .u32 0) 4 rfl Tryd.underlying78 infoW rfl (by decide) (by omega) (.slice Ao o.length co) o (((Go.bits .and .u64 c2v 4294967295) % 4294967296)) [.int .u32 (((Go.bits .and .u64 c2v 4294967295) % 4294967296))] (fun _ => True) (fun _ => False) rfl rfl ?aP (fun _ hk => hk.elim) ?aF ?aO ?aB ?aS ?aL ?_; (case aP => exact rfl); (case aB => exact (kB0 HB)); (case aF => exact (fun _ _ => trivial)); (case aO => exact (kR HO)); (case aS => exact (below_size (kB0 HB))); (case aL => have := hol.out; have := hn.out; have := hl.out; omega); intro v214 w12 ho hb_ hg hat; have n0_ := Aside0.mk hb_; have n1_ := Aside0.mk ho; clear HB HO; have HB := n0_; have HO := n1_; clear n0_ n1_; clear ho hb_ hg hat))
          go_roundg k1
          case measure => have := hk.out; omega
          case rel => exact ⟨_, _, _, n + 1, rfl, rfl, ⟨by have := XN.out; have := HLT.out; have := hl.out; unfold wrap64; omega⟩, ST, ⟨HLT.out⟩, ⟨by have := hol.out; simp; omega⟩, ⟨by have := hk.out; have := HLT.out; omega⟩, ⟨kR HO⟩, ⟨kB0 HB⟩⟩
set_option maxHeartbeats 8000000 in
set_option maxRecDepth 100000 in
theorem limbs_Add.calls2 (A : Option Addr) (c : Nat) (a : List Int) (B : Option Addr) (d : Nat) (b : List Int) (w : World) (ha : Aside0 (Kd.C (Kd.int .u32) w A a.length a)) (hb : Aside0 (Kd.C (Kd.int .u32) w B b.length b)) (hl : Aside0 (a.length ≤ 10000000000000)) (q : b.length < a.length) :
    Calls Tryd.prog 52 #[.slice B b.length d, .slice A a.length c] w fun e w' => ∃ R k, e = .returned (.slice R (strip (addG a b a.length 0 0 [])).length k) ∧ Kd.C (Kd.int .u32) w' R (strip (addG a b a.length 0 0 [])).length (strip (addG a b a.length 0 0 [])) ∧ k = (strip (addG a b a.length 0 0 [])).length ∧ WhereAt w w' R ∧ Below w.heap.size w w' := by
  have HB := Aside0.mk (Below.refl w.heap.size w)
  have q1 : decide ((b.length : Int) < (a.length : Int)) = true := decide_eq_true (by omega)
  have q2 : decide (b.length < a.length) = true := decide_eq_true (by omega)
  have w1 : wrap64 ((a.length : Int) + 1) = (a.length : Int) + 1 := by have := hl.out; unfold wrap64; omega
  have w2 : (0 : Int) ≤ (a.length : Int) + 1 := by omega
  have w3 : ((a.length : Int) + 1) * 4 ≤ 281474976710656 := by have := hl.out; omega
  have w4 : ((a.length : Int) + 1).toNat = a.length + 1 := by omega
  have w5 : ((a.length : Int) + 1) ≤ 70368744177664 := by have := hl.out; omega
  obtain ⟨i0, hi0, hzz⟩ := Option.map_eq_some_iff.1 infoW
  simp only [Prod.mk.injEq] at hzz
  obtain ⟨hz0, hz1, hz2⟩ := hzz
  have mk : ∀ W, (Instr.makeSlice 78 (.int .i64 0) (.int .i64 ((a.length : Int) + 1))).run Tryd.prog W = .ok (.slice (some ⟨W.heap.size, 0, none⟩) 0 (a.length + 1)) (W.alloc (.cells (madeCells #[.int .u32 0] (a.length + 1)) 96)) := by
    intro W
    have h := run_make (P := Tryd.prog) W 78 96 i0 (.int .u32 0) Tryd.underlying78 hi0 hz0 .i64 .i64 0 ((a.length : Int) + 1) (by omega) (by omega) (by rw [hz2]; omega) (by omega)
    rw [hz1, w4, Nat.mul_one] at h
    exact h
  clear hz0 hz1 hz2 hi0
  have Q := Aside0.mk q
  obtain ⟨T, hT⟩ : ∃ T, T = addG a b a.length 0 0 [] := ⟨_, rfl⟩
  rw [← hT]
  have HT := Aside0.mk hT.symm
  clear q hT
  go_enter Tryd.func52, Tryd.ntmps52
  go_wp2
  have HO := Aside0.mk (R_room w 96 (madeCells #[.int .u32 0] (a.length + 1)) (a.length + 1) (madeCells_one _ _) (by have := hl.out; unfold maxLen; omega))
  have HB := Aside0.mk (below_alloc (Below.refl w.heap.size w) (.cells (madeCells #[.int .u32 0] (a.length + 1)) 96))
  clear w1 w2 w3 w4 w5 q1 q2 mk
  go_loopg [5, 6, 21] (a.length + 1) (fun kq v5 v6 v21 w' => ∃ (o : List Int) (cc : Int) (x : Int) (n : Nat), v6 = .int .u64 cc ∧ v21 = .int .i64 x ∧ Aside0 (x = n) ∧ Aside0 (addG a b (a.length - n) n cc o = T) ∧ Aside0 (n ≤ a.length) ∧ Aside0 (o.length = n) ∧ Aside0 (a.length - n < kq) ∧ Aside0 (Kd.R (Kd.int .u32) 96 w' w.heap.size (fun _ => True) v5 o) ∧ Aside0 (Below w.heap.size w w'))
  case atStart => exact ⟨[], 0, 0, 0, rfl, rfl, ⟨rfl⟩, HT, ⟨Nat.zero_le _⟩, ⟨rfl⟩, ⟨by omega⟩, HO, HB⟩
  case round =>
    clear HO HB
    obtain ⟨o, cc, x, n, rfl, rfl, hx, hs, hn, hol, hk, HO, HB⟩ := hrel
    cases gk with
    | zero => exact absurd hk.out (by omega)
    | succ k1 =>
      have hxx := hx.out
      have hnn := hn.out
      obtain ⟨Ao, co, eo⟩ := Kd.R_slice HO.out
      subst eo
      by_cases hend : n = a.length
      · have cnd : decide (x < (a.length : Int)) = false := decide_eq_false (by omega)
        have hTT : T = o ++ [cc % 4294967296] := by rw [← hs.out, hend, Nat.sub_self]; rfl
        have TT := Aside0.mk hTT
        clear hxx hnn hend hTT
        go_wp2_with (first | ((with_reducible refine gate_builtin (b := .append) (xs := #[.tmp 50, .tmp 53]) rfl ?_); at_builtin; refine Kd.R_append (Kd.int .u32) (w0 := w) w.heap.size rfl (.tmp 50) (.tmp 53) 78 96 (.int .u32 0) 4 rfl Tryd.underlying78 infoW rfl (by decide) (by omega) (.slice Ao o.length co) o ((cc % 4294967296)) [.int .u32 ((cc % 4294967296))] (fun _ => True) (fun _ => False) rfl rfl ?aP (fun _ hk => hk.elim) ?aF ?aO ?aB ?aS ?aL ?_; (case aP => exact rfl); (case aB => exact (kB0 HB)); (case aF => exact (fun _ _ => trivial)); (case aO => exact (kR HO)); (case aS => exact (below_size (kB0 HB))); (case aL => have := hol.out; have := hn.out; have := hl.out; omega); intro v214 w12 ho hb_ hg hat; have n0_ := Aside0.mk hb_; have n1_ := Aside0.mk ho; clear HB HO; have HB := n0_; have HO := n1_; clear n0_ n1_; clear ho hb_ hg hat) | (go_at_call 49; obtain ⟨Aq, cq, eq_⟩ := Kd.R_slice HO.out; subst eq_; (with_reducible refine (limbs_trim.at Aq cq (o ++ [cc % 4294967296]) _ ?side1 ?side2).mono ?_); (case side1 => repeat (first | exact (Kd.R_reads' HO.out).2.2 | (with_reducible refine Kd.C_alloc ?_ _) | (with_reducible refine Kd.C_drewN ?_ _) | (with_reducible refine Kd.C_drew ?_))); (case side2 => exact (Kd.R_reads' HO.out).2.1); rintro e w6 ⟨rfl, hc, ⟨⟨nd, rfl⟩⟩⟩; have HC := Aside0.mk hc; clear hc))
        go_ret
        rw [TT.out]
        exact ⟨_, _, rfl, by repeat (first | exact HC.out | (with_reducible refine Kd.C_drewN ?_ _) | (with_reducible refine Kd.C_drew ?_)), rfl, R_where (kR HO), kB0 HB⟩
      · have cnd : decide (x < (a.length : Int)) = true := decide_eq_true (by omega)
        have p1 : 0 ≤ x := by omega
        have p2 : x < (a.length : Int) := by omega
        have hlt : n < a.length := by omega
        obtain ⟨ad, rfl, e1⟩ := Kd.at_int ha.out x p1 p2
        replace e1 := (HB.out.cell (World.block_lt_of_cell? w _ e1)).trans e1
        obtain ⟨c1v, hc1⟩ : ∃ c1v, IntKind.u64.wrap (cc + IntKind.u64.wrap (rd a x)) = c1v := ⟨_, rfl⟩
        replace p1 := eq_true p1
        replace p2 := eq_true p2
        have HLT := Aside0.mk hlt
        have XN := Aside0.mk hxx
        by_cases hb2 : x < (b.length : Int)
        · have cb1 : decide (x < (b.length : Int)) = true := decide_eq_true hb2
          have p3 : x < (b.length : Int) := hb2
          obtain ⟨bd, rfl, e2⟩ := Kd.at_int hb.out x (by omega) p3
          replace e2 := (HB.out.cell (World.block_lt_of_cell? w _ e2)).trans e2
          replace p3 := eq_true p3
          obtain ⟨c2v, hc2⟩ : ∃ c2v, IntKind.u64.wrap (c1v + IntKind.u64.wrap (rd b x)) = c2v := ⟨_, rfl⟩
          have ST := Aside0.mk (show addG a b (a.length - (n + 1)) (n + 1) (c2v / 4294967296) (o ++ [((Go.bits .and .u64 c2v 4294967295) % 4294967296)]) = T by
            rw [← hs.out, show a.length - n = (a.length - (n + 1)) + 1 by omega]
            conv => rhs; unfold addG
            simp only []
            rw [← hxx, if_pos hb2, hc1, hc2])
          clear hb2 hxx hnn hend hlt hs
          go_wp2_with (first | (go_at_call 50; refine (limbs_low.calls c2v _ _ rfl).mono ?_; rintro e w' ⟨rfl, ⟨⟨nd, rfl⟩⟩⟩) | (go_at_call 51; refine (limbs_high.calls c2v _ _ rfl).mono ?_; rintro e w' ⟨rfl, ⟨⟨nd, rfl⟩⟩⟩) | ((with_reducible refine gate_builtin (b := .append) (xs := #[.tmp 42, .tmp 45]) rfl ?_); at_builtin; refine Kd.R_append (Kd.int .u32) (w0 := w) w.heap.size rfl (.tmp 42) (.tmp 45) 78 96 (.int .u32 0) 4 rfl Tryd.underlying78 infoW rfl (by decide) (by omega) (.slice Ao o.length co) o (((Go.bits .and .u64 c2v 4294967295) % 4294967296)) [.int .u32 (((Go.bits .and .u64 c2v 4294967295) % 4294967296))] (fun _ => True) (fun _ => False) rfl rfl ?aP (fun _ hk => hk.elim) ?aF ?aO ?aB ?aS ?aL ?_; (case aP => exact rfl); (case aB => exact (kB0 HB)); (case aF => exact (fun _ _ => trivial)); (case aO => exact (kR HO)); (case aS => exact (below_size (kB0 HB))); (case aL => have := hol.out; have := hn.out; have := hl.out; omega); intro v214 w12 ho hb_ hg hat; have n0_ := Aside0.mk hb_; have n1_ := Aside0.mk ho; clear HB HO; have HB := n0_; have HO := n1_; clear n0_ n1_; clear ho hb_ hg hat))
          go_roundg k1
          case measure => have := hk.out; omega
          case rel => exact ⟨_, _, _, n + 1, rfl, rfl, ⟨by have := XN.out; have := HLT.out; have := hl.out; unfold wrap64; omega⟩, ST, ⟨HLT.out⟩, ⟨by have := hol.out; simp; omega⟩, ⟨by have := hk.out; have := HLT.out; omega⟩, ⟨kR HO⟩, ⟨kB0 HB⟩⟩
        · have cb1 : decide (x < (b.length : Int)) = false := decide_eq_false hb2
          obtain ⟨c2v, hc2⟩ : ∃ c2v, c1v = c2v := ⟨_, rfl⟩
          subst hc2
          obtain ⟨c2v, hc3⟩ : ∃ c2v, c2v = c1v := ⟨_, rfl⟩
          rw [← hc3] at hc1
          clear hc3
          have ST := Aside0.mk (show addG a b (a.length - (n + 1)) (n + 1) (c2v / 4294967296) (o ++ [((Go.bits .and .u64 c2v 4294967295) % 4294967296)]) = T by
            rw [← hs.out, show a.length - n = (a.length - (n + 1)) + 1 by omega]
            conv => rhs; unfold addG
            simp only []
            rw [← hxx, if_neg hb2, hc1])
          clear hb2 hxx hnn hend hlt hs
          go_wp2_with (first | (go_at_call 50; refine (limbs_low.calls c2v _ _ rfl).mono ?_; rintro e w' ⟨rfl, ⟨⟨nd, rfl⟩⟩⟩) | (go_at_call 51; refine (limbs_high.calls c2v _ _ rfl).mono ?_; rintro e w' ⟨rfl, ⟨⟨nd, rfl⟩⟩⟩) | ((with_reducible refine gate_builtin (b := .append) (xs := #[.tmp 42, .tmp 45]) rfl ?_); at_builtin; refine Kd.R_append (Kd.int .u32) (w0 := w) w.heap.size rfl (.tmp 42) (.tmp 45) 78 96 (.int .u32 0) 4 rfl Tryd.underlying78 infoW rfl (by decide) (by omega) (.slice Ao o.length co) o (((Go.bits .and .u64 c2v 4294967295) % 4294967296)) [.int .u32 (((Go.bits .and .u64 c2v 4294967295) % 4294967296))] (fun _ => True) (fun _ => False) rfl rfl ?aP (fun _ hk => hk.elim) ?aF ?aO ?aB ?aS ?aL ?_; (case aP => exact rfl); (case aB => exact (kB0 HB)); (case aF => exact (fun _ _ => trivial)); (case aO => exact (kR HO)); (case aS => exact (below_size (kB0 HB))); (case aL => have := hol.out; have := hn.out; have := hl.out; omega); intro v214 w12 ho hb_ hg hat; have n0_ := Aside0.mk hb_; have n1_ := Aside0.mk ho; clear HB HO; have HB := n0_; have HO := n1_; clear n0_ n1_; clear ho hb_ hg hat))
          go_roundg k1
          case measure => have := hk.out; omega
          case rel => exact ⟨_, _, _, n + 1, rfl, rfl, ⟨by have := XN.out; have := HLT.out; have := hl.out; unfold wrap64; omega⟩, ST, ⟨HLT.out⟩, ⟨by have := hol.out; simp; omega⟩, ⟨by have := hk.out; have := HLT.out; omega⟩, ⟨kR HO⟩, ⟨kB0 HB⟩⟩
theorem limbs_Add.calls (A : Option Addr) (c : Nat) (a : List Int) (B : Option Addr) (d : Nat) (b : List Int) (w : World) (ha : Aside0 (Kd.C (Kd.int .u32) w A a.length a)) (hb : Aside0 (Kd.C (Kd.int .u32) w B b.length b)) (hla : a.length ≤ 10000000000000) (hlb : b.length ≤ 10000000000000) :
    Calls Tryd.prog 52 #[.slice A a.length c, .slice B b.length d] w fun e w' => ∃ R k, e = .returned (.slice R (addL a b).length k) ∧ Kd.C (Kd.int .u32) w' R (addL a b).length (addL a b) ∧ k = (addL a b).length ∧ WhereAt w w' R ∧ Below w.heap.size w w' := by
  unfold addL
  by_cases q : a.length < b.length
  · rw [if_pos q]
    exact limbs_Add.calls2 B d b A c a w hb ha ⟨hlb⟩ q
  · rw [if_neg q]
    exact limbs_Add.calls1 A c a B d b w ha hb ⟨hla⟩ (by omega)
end Go.Proofs.YtpeiafamkajedaaDoor.FAll
