/-
  Package limbs by hand: trim.
-/
import Derived.Test.YtpeiafamkajedaaDoorFAllx
namespace Go.Proofs.YtpeiafamkajedaaDoor.FAll
open Go.RowKit Go.Proofs.YtpeiafamkajedaaDoorW.PrintWords Go.Proofs.YtpeiafamkajedaaDoorW.PrintLast Go.Proofs.YtpeiafamkajedaaDoorW.PrintMore
attribute [local go_sem] feq_walk fne_walk flt_walk fle_walk fgt_walk fge_walk fint_walk fstore_walk max2_int min2_int max_two min_two
set_option linter.unusedVariables false
set_option linter.unusedSimpArgs false

def stripN (l : List Int) : Nat → Nat
  | 0 => 0
  | n + 1 => if rd l (n : Int) = 0 then stripN l n else n + 1
theorem stripN_le (l : List Int) (n : Nat) : stripN l n ≤ n := by
  induction n with
  | zero => exact Nat.le_refl _
  | succ n ih => unfold stripN; split <;> omega

set_option maxHeartbeats 8000000 in
set_option maxRecDepth 100000 in
theorem limbs_trim.calls (A0 : Option Addr) (c0 : Nat) (l0 : List Int) (w : World) (hr0 : Kd.C (Kd.int .u32) w A0 l0.length l0) (hc0 : l0.length ≤ c0) :
    Calls Tryd.prog 49 #[.slice A0 l0.length c0] w fun e w' => e = .returned (.slice A0 (stripN l0 l0.length) (stripN l0 l0.length)) ∧ Drawn0 w w' := by
  have HR0 := Aside0.mk hr0
  have HC0 := Aside0.mk hc0
  have HL := Aside0.mk (show l0.length ≤ 9223372036854775807 from (show ReadsRow _ _ _ _ _ _ from hr0).2.1)
  clear hr0 hc0
  obtain ⟨m, hm0⟩ : ∃ m, m = stripN l0 l0.length := ⟨_, rfl⟩
  have HM := Aside0.mk hm0
  rw [← hm0]
  clear hm0
  go_enter Tryd.func49, Tryd.ntmps49
  go_wp2
  go_loopg [3] (l0.length + 1) (fun kq v3 w' => ∃ (x : Int) (n : Nat), v3 = .int .i64 x ∧ Aside0 (x = n) ∧ Aside0 (stripN l0 n = m) ∧ Aside0 (n ≤ l0.length) ∧ Aside0 (n < kq) ∧ Drawn0 w w')
  case atStart => exact ⟨_, l0.length, rfl, ⟨rfl⟩, ⟨HM.out.symm⟩, ⟨Nat.le_refl _⟩, ⟨Nat.lt_succ_self _⟩, by repeat (first | exact Drawn0.refl _ | apply Drawn0.step)⟩
  case round =>
    obtain ⟨x, n, rfl, hx, hs, hn, hk, hw⟩ := hrel
    obtain ⟨⟨q, rfl⟩⟩ := hw
    cases gk with
    | zero => exact absurd hk.out (by omega)
    | succ k1 =>
      have hxx := hx.out
      have hnn := hn.out
      have hcc := HC0.out
      have hll := HL.out
      have hfin : x.toNat = n := by omega
      cases n with
      | zero =>
        have hx0 : x = 0 := by omega
        subst hx0
        have hm : m = 0 := hs.out.symm
        subst hm
        clear hxx hnn hcc hll hfin
        go_wp2
        go_ret
        exact ⟨rfl, by repeat (first | exact Drawn0.refl _ | apply Drawn0.step)⟩
      | succ n =>
        have hs' := hs.out
        unfold stripN at hs'
        have c3 : decide (0 < x) = true := decide_eq_true (by omega)
        obtain ⟨ji, hji⟩ : ∃ j : Int, wrap64 (x - 1) = j := ⟨_, rfl⟩
        have ej : ji = (n : Int) := by rw [← hji]; unfold wrap64; omega
        have hjiw : (IntKind.i64.wrap (x - 1)) = ji := (i64_w _).trans hji
        have p2 : 0 ≤ ji := by omega
        have q2 : ji < (l0.length : Int) := by omega
        have c5 : decide (0 ≤ ji) = true := decide_eq_true p2
        have c6 : decide (ji < (l0.length : Int)) = true := decide_eq_true q2
        obtain ⟨ad, e2, hc⟩ := Kd.at_int HR0.out ji p2 q2
        cases e2
        replace p2 := eq_true p2
        replace q2 := eq_true q2
        by_cases c : rd l0 ji = 0
        · have c7 : (rd l0 ji == 0) = true := beq_iff_eq.mpr c
          rw [if_pos (by rw [← ej]; exact c)] at hs'
          have H1 := Aside0.mk hs'
          have H2 := Aside0.mk ej
          clear c hs' hxx hnn hcc hll hfin ej
          go_wp2
          go_roundg k1
          case measure => have := hk.out; omega
          case rel => exact ⟨_, n, rfl, ⟨H2.out⟩, ⟨H1.out⟩, ⟨by have := hn.out; omega⟩, ⟨by have := hk.out; omega⟩, by repeat (first | exact Drawn0.refl _ | apply Drawn0.step)⟩
        · have c7 : (rd l0 ji == 0) = false := beq_eq_false_iff_ne.mpr c
          rw [if_neg (by rw [← ej]; exact c)] at hs'
          have r1 : (0 ≤ x) = True := eq_true (by omega)
          have r2 : (x ≤ (c0 : Int)) = True := eq_true (by omega)
          have r3 : (x.toNat ≤ c0) = True := eq_true (by omega)
          have r4 : x.toNat = m := by omega
          have H1 := Aside0.mk r4
          clear c hs' hxx hnn hcc hll hfin ej r4
          go_wp2
          rw [H1.out]
          go_ret
          exact ⟨rfl, by repeat (first | exact Drawn0.refl _ | apply Drawn0.step)⟩

/-- Where a slice lies: in a block of its own of that type. -/
def WhereAt (w w' : World) (A : Option Addr) : Prop := ∀ ad, A = some ad → w.heap.size ≤ ad.block ∧ ad.block < w'.heap.size ∧ (∃ cells, w'.heap[ad.block]? = some (.cells cells 96 (0, 0))) ∧ ad = ⟨ad.block, 0, none⟩
theorem R_where {w0 w : World} {ok : Nat → Prop} {A : Option Addr} {n c : Nat} {xs : List Int} (h : Kd.R (Kd.int .u32) 96 w w0.heap.size ok (.slice A n c) xs) : WhereAt w0 w A := by
  rintro ad rfl
  obtain ⟨_, inner, ho, _⟩ := h
  have hs : ad = ⟨ad.block, 0, none⟩ := by
    rcases ho.2 with ⟨h, _⟩ | ⟨g, cap, cur, h, _⟩
    · cases h
    · injection h with h1 _ _; injection h1 with h1; rw [h1]
  exact ⟨own_base ho _ rfl, own_lt ho _ rfl, own_typed ho _ rfl, hs⟩

/-- A list without its last noughts. -/
def strip (l : List Int) : List Int := l.take (stripN l l.length)
theorem strip_length (l : List Int) : (strip l).length = stripN l l.length := by
  unfold strip; rw [List.length_take]; have := stripN_le l l.length; omega
theorem limbs_trim.at (A0 : Option Addr) (c0 : Nat) (l0 : List Int) (w : World) (hr0 : Kd.C (Kd.int .u32) w A0 l0.length l0) (hc0 : l0.length ≤ c0) :
    Calls Tryd.prog 49 #[.slice A0 l0.length c0] w fun e w' => e = .returned (.slice A0 (strip l0).length (strip l0).length) ∧ Kd.C (Kd.int .u32) w A0 (strip l0).length (strip l0) ∧ Drawn0 w w' := by
  refine (limbs_trim.calls A0 c0 l0 w hr0 hc0).mono ?_
  rintro e w' ⟨rfl, hd⟩
  exact ⟨by rw [strip_length], Kd.C_take hr0 (stripN_le _ _), hd⟩

/-- The two words of a number. -/
def words (n : Int) : List Int := [(Go.bits .and .u64 n 4294967295) % 4294967296, (n / 4294967296) % 4294967296]
set_option maxHeartbeats 8000000 in
set_option maxRecDepth 100000 in
theorem limbs_From.calls (n : Int) (w : World) :
    Calls Tryd.prog 33 #[.int .u64 n] w fun e w' => ∃ A c, e = .returned (.slice A (strip (words n)).length c) ∧ Kd.C (Kd.int .u32) w' A (strip (words n)).length (strip (words n)) ∧ c = (strip (words n)).length ∧ WhereAt w w' A ∧ Below w.heap.size w w' := by
  have HB := Aside0.mk (Below.refl w.heap.size w)
  obtain ⟨y, hy⟩ : ∃ y, y = words n := ⟨_, rfl⟩
  rw [← hy]
  have Ny := Aside0.mk hy
  clear hy
  go_enter Tryd.func33, Tryd.ntmps33
  go_wp2_with (first | ((with_reducible refine gate_callee (f := 50) rfl ?_); refine goesL_ (some 4) rfl rfl Tryd.func50 (by kernel_rfl) rfl #[.int .u64 n] rfl (by (try simp only [List.map_toArray, List.map_cons, List.map_nil]); first | done | rfl) ?_; (with_reducible refine (limbs_low.calls n _ _ rfl).mono ?_); rintro e w' ⟨rfl, ⟨nd, rfl⟩⟩; refine ⟨_, rfl, ?_⟩) | ((with_reducible refine gate_callee (f := 51) rfl ?_); refine goesL_ (some 6) rfl rfl Tryd.func51 (by kernel_rfl) rfl #[.int .u64 n] rfl (by (try simp only [List.map_toArray, List.map_cons, List.map_nil]); first | done | rfl) ?_; (with_reducible refine (limbs_high.calls n _ _ rfl).mono ?_); rintro e w' ⟨rfl, ⟨nd, rfl⟩⟩; refine ⟨_, rfl, ?_⟩) | ((with_reducible refine gate_dst (N := 8) rfl ?_); refine Kd.R_lit (Kd.int .u32) _ 96 ?hg (N := 8) ?hd (xs := words n) (inner := [.int .u32 ((Go.bits .and .u64 n 4294967295) % 4294967296), .int .u32 ((n / 4294967296) % 4294967296)]) (ok := fun _ => True) (okp := fun _ => True) ?hr ?hp (fun _ hk => hk) trivial (Below.refl _ _) (Nat.le_refl _) (by simp [words]) ?_; (case hd => rfl); (case hg => rfl); (case hr => first | (go_simp; done) | (go_simp; rfl)); (case hp => exact (Reps.one (show Kd.M (Kd.int .u32) _ _ _ ((Go.bits .and .u64 n 4294967295) % 4294967296) [.int .u32 ((Go.bits .and .u64 n 4294967295) % 4294967296)] from rfl) (Reps.one (show Kd.M (Kd.int .u32) _ _ _ ((n / 4294967296) % 4294967296) [.int .u32 ((n / 4294967296) % 4294967296)] from rfl) (Reps.none _ _)))); intro v219 w3 ho4 hb hg_ hnew_; clear hg_ hnew_; rw [← Ny.out] at ho4; have n0_ := Aside0.mk (Kd.R_lower ho4 (below_size (kB0 HB))); have n1_ := Aside0.mk (below_step (kB0 HB) hb); clear HB; have HO := n0_; have HB := n1_; clear n0_ n1_; clear hb ho4; obtain ⟨Ao5, co5, eo5⟩ := Kd.R_slice HO.out; subst eo5) | ((with_reducible refine gate_callee (f := 49) rfl ?_); refine goesL_ (some 9) rfl rfl Tryd.func49 (by kernel_rfl) rfl #[.slice Ao5 y.length co5] rfl (by (try simp only [List.map_toArray, List.map_cons, List.map_nil]); first | done | rfl) ?_; (with_reducible refine (limbs_trim.at Ao5 co5 y _ ?side1 ?side2).mono ?_); (case side1 => repeat (first | exact (Kd.R_reads' HO.out).2.2 | (with_reducible refine Kd.C_alloc ?_ _) | (with_reducible refine Kd.C_drewN ?_ _) | (with_reducible refine Kd.C_drew ?_))); (case side2 => exact (Kd.R_reads' HO.out).2.1); rintro e w6 ⟨rfl, hc, ⟨nd, rfl⟩⟩; refine ⟨_, rfl, ?_⟩; have HC := Aside0.mk hc; clear hc))
  go_ret
  exact ⟨_, _, rfl, by repeat (first | exact HC.out | (with_reducible refine Kd.C_drewN ?_ _) | (with_reducible refine Kd.C_drew ?_)), rfl, R_where (kR HO), kB0 HB⟩

/-- Which of two rows of one length is less, from the top down. -/
def cmpDown (a b : List Int) : Nat → Int
  | 0 => 0
  | n + 1 => if rd a (n : Int) < rd b (n : Int) then -1 else if rd b (n : Int) < rd a (n : Int) then 1 else cmpDown a b n
def cmpL (a b : List Int) : Int := if a.length = b.length then cmpDown a b a.length else if a.length < b.length then -1 else 1

set_option maxHeartbeats 8000000 in
set_option maxRecDepth 100000 in
theorem limbs_Cmp.calls (A : Option Addr) (c : Nat) (a : List Int) (B : Option Addr) (d : Nat) (b : List Int) (w : World) (ha : Aside0 (Kd.C (Kd.int .u32) w A a.length a)) (hac : Aside0 (a.length ≤ c)) (hb : Aside0 (Kd.C (Kd.int .u32) w B b.length b)) (hbd : Aside0 (b.length ≤ d)) (r : Int) (H : Aside0 (cmpL (strip a) (strip b) = r)) :
    Calls Tryd.prog 35 #[.slice A a.length c, .slice B b.length d] w fun e w' => e = .returned (.int .i64 r) ∧ Drawn0 w w' := by
  obtain ⟨x, hx⟩ : ∃ x, x = strip a := ⟨_, rfl⟩
  obtain ⟨y, hy⟩ : ∃ y, y = strip b := ⟨_, rfl⟩
  have CA := Aside0.mk (show Kd.C (Kd.int .u32) w A x.length x by rw [hx]; exact Kd.C_take ha.out (stripN_le _ _))
  have CB := Aside0.mk (show Kd.C (Kd.int .u32) w B y.length y by rw [hy]; exact Kd.C_take hb.out (stripN_le _ _))
  have HH := Aside0.mk (show cmpL x y = r by rw [hx, hy]; exact H.out)
  have TX := Aside0.mk (show ∀ w', Kd.C (Kd.int .u32) w' A a.length a → Calls Tryd.prog 49 #[.slice A a.length c] w' fun e w'' => e = .returned (.slice A x.length x.length) ∧ Drawn0 w' w'' from fun w' h => by rw [hx]; exact (limbs_trim.at A c a w' h hac.out).mono fun e w'' h2 => ⟨h2.1, h2.2.2⟩)
  have TY := Aside0.mk (show ∀ w', Kd.C (Kd.int .u32) w' B b.length b → Calls Tryd.prog 49 #[.slice B b.length d] w' fun e w'' => e = .returned (.slice B y.length y.length) ∧ Drawn0 w' w'' from fun w' h => by rw [hy]; exact (limbs_trim.at B d b w' h hbd.out).mono fun e w'' h2 => ⟨h2.1, h2.2.2⟩)
  have LX := Aside0.mk (show x.length ≤ 9223372036854775807 from (show ReadsRow _ _ _ _ _ _ from CA.out).2.1)
  clear hx hy H
  have hl := HH.out
  unfold cmpL at hl
  by_cases q : x.length = y.length
  · have q1 : (x.length == y.length) = true := beq_iff_eq.mpr q
    have q2 : ((x.length : Int) == (y.length : Int)) = true := beq_iff_eq.mpr (by omega)
    have q3 : ((x.length : Int) != (y.length : Int)) = false := bne_eq_false_iff_eq.mpr (by omega)
    rw [if_pos q] at hl
    have HL := Aside0.mk hl
    have Q := Aside0.mk q
    clear q hl
    go_enter Tryd.func35, Tryd.ntmps35
    go_wp2_with (first | (go_at_call 49; (with_reducible refine (TX.out _ ?side1).mono ?_); (case side1 => repeat (first | exact ha.out | (with_reducible refine Kd.C_drewN ?_ _) | (with_reducible refine Kd.C_drew ?_))); rintro e w' ⟨rfl, ⟨⟨nd, rfl⟩⟩⟩) | (go_at_call 49; (with_reducible refine (TY.out _ ?side1).mono ?_); (case side1 => repeat (first | exact hb.out | (with_reducible refine Kd.C_drewN ?_ _) | (with_reducible refine Kd.C_drew ?_))); rintro e w' ⟨rfl, ⟨⟨nd, rfl⟩⟩⟩))
    go_loopg [5] (x.length + 1) (fun kq v5 w' => ∃ (z : Int) (n : Nat), v5 = .int .i64 z ∧ Aside0 (z = (n : Int) - 1) ∧ Aside0 (cmpDown x y n = r) ∧ Aside0 (n ≤ x.length) ∧ Aside0 (n < kq) ∧ Drawn0 w w')
    case atStart => exact ⟨_, x.length, rfl, ⟨by have := LX.out; unfold wrap64; omega⟩, ⟨HL.out⟩, ⟨Nat.le_refl _⟩, ⟨Nat.lt_succ_self _⟩, by repeat (first | exact Drawn0.refl _ | apply Drawn0.step)⟩
    case round =>
      obtain ⟨z, n, rfl, hz, hs, hn, hk, ⟨⟨qd, rfl⟩⟩⟩ := hrel
      cases gk with
      | zero => exact absurd hk.out (by omega)
      | succ k1 =>
        have hzz := hz.out
        have hnn := hn.out
        have hqq := Q.out
        cases n with
        | zero =>
          have cnd : decide (0 ≤ z) = false := decide_eq_false (by omega)
          have hr : r = 0 := hs.out.symm
          subst hr
          clear hzz hnn hqq q1 q2 q3
          go_wp2
          go_ret
          exact ⟨rfl, by repeat (first | exact Drawn0.refl _ | apply Drawn0.step)⟩
        | succ n =>
          have cnd : decide (0 ≤ z) = true := decide_eq_true (by omega)
          have p1 : 0 ≤ z := by omega
          have p2 : z < (x.length : Int) := by omega
          have p3 : z < (y.length : Int) := by omega
          obtain ⟨ad, rfl, e1⟩ := Kd.at_int CA.out z p1 p2
          obtain ⟨bd, rfl, e2⟩ := Kd.at_int CB.out z p1 p3
          have hs' := hs.out
          unfold cmpDown at hs'
          have ez : (n : Int) = z := by omega
          rw [ez] at hs'
          replace p1 := eq_true p1
          replace p2 := eq_true p2
          replace p3 := eq_true p3
          have HN := Aside0.mk (show n ≤ x.length by omega)
          have EZ := Aside0.mk ez
          clear hzz hnn hqq q1 q2 q3 ez
          by_cases b1 : rd x z < rd y z
          · have d1 : decide (rd x z < rd y z) = true := decide_eq_true b1
            rw [if_pos b1] at hs'
            subst hs'
            clear b1
            go_wp2
            repeat (go_quiet (fail); try go_wp2)
            go_ret
            exact ⟨rfl, by repeat (first | exact Drawn0.refl _ | apply Drawn0.step)⟩
          · have d1 : decide (rd x z < rd y z) = false := decide_eq_false b1
            rw [if_neg b1] at hs'
            by_cases b2 : rd y z < rd x z
            · have d2 : decide (rd y z < rd x z) = true := decide_eq_true b2
              rw [if_pos b2] at hs'
              subst hs'
              clear b1 b2
              go_wp2
              repeat (go_quiet (fail); try go_wp2)
              go_ret
              exact ⟨rfl, by repeat (first | exact Drawn0.refl _ | apply Drawn0.step)⟩
            · have d2 : decide (rd y z < rd x z) = false := decide_eq_false b2
              rw [if_neg b2] at hs'
              have HS := Aside0.mk hs'
              clear b1 b2 hs'
              go_wp2
              repeat (go_quiet (fail); try go_wp2)
              go_roundg k1
              case measure => have := hk.out; omega
              case rel => exact ⟨_, n, rfl, ⟨by have := EZ.out; have := HN.out; have := LX.out; unfold wrap64; omega⟩, HS, HN, ⟨by have := hk.out; omega⟩, by repeat (first | exact Drawn0.refl _ | apply Drawn0.step)⟩
  · have q2 : ((x.length : Int) == (y.length : Int)) = false := beq_eq_false_iff_ne.mpr (by omega)
    have q3 : ((x.length : Int) != (y.length : Int)) = true := bne_iff_ne.mpr (by omega)
    rw [if_neg q] at hl
    by_cases b : x.length < y.length
    · have b1 : decide ((x.length : Int) < (y.length : Int)) = true := decide_eq_true (by omega)
      have b2 : decide (x.length < y.length) = true := decide_eq_true b
      rw [if_pos b] at hl
      subst hl
      clear q b
      go_enter Tryd.func35, Tryd.ntmps35
      go_wp2_with (first | (go_at_call 49; (with_reducible refine (TX.out _ ?side1).mono ?_); (case side1 => repeat (first | exact ha.out | (with_reducible refine Kd.C_drewN ?_ _) | (with_reducible refine Kd.C_drew ?_))); rintro e w' ⟨rfl, ⟨⟨nd, rfl⟩⟩⟩) | (go_at_call 49; (with_reducible refine (TY.out _ ?side1).mono ?_); (case side1 => repeat (first | exact hb.out | (with_reducible refine Kd.C_drewN ?_ _) | (with_reducible refine Kd.C_drew ?_))); rintro e w' ⟨rfl, ⟨⟨nd, rfl⟩⟩⟩))
      go_ret
      exact ⟨rfl, by repeat (first | exact Drawn0.refl _ | apply Drawn0.step)⟩
    · have b1 : decide ((x.length : Int) < (y.length : Int)) = false := decide_eq_false (by omega)
      have b2 : decide (x.length < y.length) = false := decide_eq_false b
      rw [if_neg b] at hl
      subst hl
      clear q b
      go_enter Tryd.func35, Tryd.ntmps35
      go_wp2_with (first | (go_at_call 49; (with_reducible refine (TX.out _ ?side1).mono ?_); (case side1 => repeat (first | exact ha.out | (with_reducible refine Kd.C_drewN ?_ _) | (with_reducible refine Kd.C_drew ?_))); rintro e w' ⟨rfl, ⟨⟨nd, rfl⟩⟩⟩) | (go_at_call 49; (with_reducible refine (TY.out _ ?side1).mono ?_); (case side1 => repeat (first | exact hb.out | (with_reducible refine Kd.C_drewN ?_ _) | (with_reducible refine Kd.C_drew ?_))); rintro e w' ⟨rfl, ⟨⟨nd, rfl⟩⟩⟩))
      go_ret
      exact ⟨rfl, by repeat (first | exact Drawn0.refl _ | apply Drawn0.step)⟩
end Go.Proofs.YtpeiafamkajedaaDoor.FAll
