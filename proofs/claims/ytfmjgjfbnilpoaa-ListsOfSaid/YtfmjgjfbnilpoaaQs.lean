/-
 thicketref07.Alike and Same: of what reads the same they say so.
-/
import Derived.Test.YtfmjgjfbnilpoaaZq
import Derived.Test.YtfmjgjfbnilpoaaPh
import Derived.Test.YtfmjgjfbnilpoaaFAllx8
namespace Go.Proofs.Ytfmjgjfbnilpoaa.FAll
open Go.RowKit YtfmjgjfbnilpoaaW.PrintWords YtfmjgjfbnilpoaaW.PrintLast YtfmjgjfbnilpoaaW.PrintMore
attribute [local go_sem] fstore_walk run_f64bits
set_option linter.unusedVariables false
set_option linter.unusedSimpArgs false
theorem blk_new2 (w : World) (o1 o2 : Obj) : ((w.alloc o1).alloc o2).heap[w.heap.size + 1]? = some o2 := by
 have h := blk_new (w.alloc o1) o2
 have e : (w.alloc o1).heap.size = w.heap.size + 1 := by show (w.heap.push o1).size = _; rw [Array.size_push]
 rwa [e] at h
theorem ints_ev (l : List Int) (hl : l.length ≤ 9223372036854775807) : ∀ d i : Nat, i + d = l.length → Ev (fun k => thicketref07_Ints.l0 k l l (l.length : Int) (i : Int)) true := by
 intro d
 induction d with
 | zero =>
  intro i hi
  refine Ev.step (f := fun k => _) (fun k => rfl) ?_
  refine evn (by omega) ?_
  exact Ev.now _
 | succ d ih =>
  intro i hi
  refine Ev.step (f := fun k => _) (fun k => rfl) ?_
  have e1 : wrap64 ((i : Int) + 1) = ((i + 1 : Nat) : Int) := by unfold wrap64; omega
  refine evp (by omega) ?_
  refine evp (by omega) ?_
  refine evp (by omega) ?_
  refine evp (by omega) ?_
  refine evp rfl ?_
  rw [e1]
  exact ih (i + 1) (by omega)
theorem ints_total (l : List Int) (hl : l.length ≤ 9223372036854775807) : ∃ k, thicketref07_Ints.f k l l = some true := by
 obtain ⟨k, hk⟩ := (ints_ev l hl l.length 0 (by omega)).rounds
 refine ⟨k, ?_⟩
 unfold thicketref07_Ints.f
 rw [if_pos rfl]
 exact hk
section
variable (t0 : Int) (A1 : Option Addr) (c1 : Nat) (B1 : Option Addr) (d1 : Nat) (ns : List S71)
set_option maxHeartbeats 8000000 in
set_option maxRecDepth 100000 in
theorem alike_same (w : World) (ha : Aside0 (Kd.C k71 w A1 ns.length ns)) (hac : Aside0 (ns.length ≤ c1)) (hb : Aside0 (Kd.C k71 w B1 ns.length ns)) (hbd : Aside0 (ns.length ≤ d1)) :
  Calls Try.prog 55 #[.agg #[.int .i64 t0, .slice A1 ns.length c1], .agg #[.int .i64 t0, .slice B1 ns.length d1]] w fun e w' => e = .returned (.bool true) ∧ Below w.heap.size w w' := by
 have HB := aS_ (Below.refl w.heap.size w)
 have LN := aS_ (show ns.length ≤ 9223372036854775807 from (show ReadsRow _ _ _ _ _ _ from ha.out).2.1)
 go_enter Try.func55, Try.ntmps55
 go_wp2_with (first | ((with_reducible refine gate_dst (N := 2) rfl ?_); refine box_event ?hg (N := 2) ?hd (cs := #[.int .i64 t0, .slice A1 ns.length c1]) (t := 53) ?hr ?_; (case hd => rfl); (case hg => rfl); (case hr => first | (go_simp; done) | (go_simp; rfl)); intro ga hg w1 hbox hb; have n0_ := aS_ (below_step (kB0 HB) hb); have Bga := aS_ hbox; clear HB; have HB := n0_; clear n0_ hb hbox hg) | ((with_reducible refine gate_dst (N := 3) rfl ?_); refine box_event ?hg (N := 3) ?hd (cs := #[.int .i64 t0, .slice B1 ns.length d1]) (t := 53) ?hr ?_; (case hd => rfl); (case hg => rfl); (case hr => first | (go_simp; done) | (go_simp; rfl)); intro gb hg w2 hbox hb; have n0_ := aS_ (below_step (kB0 HB) hb); have mga_ := aS_ (blk_below (kb Bga) hb); clear Bga; have Bga := mga_; clear mga_; have Bgb := aS_ hbox; clear HB; have HB := n0_; clear n0_ hb hbox hg; have he := blk2 (w := w2) Bga.out; have hf := blk2 (w := w2) Bgb.out))
 clear he hf
 go_loopg [25] (ns.length + 1) (fun kq v25 w' => ∃ (x : Int) (n : Nat), v25 = .int .i64 x ∧ Aside0 (x = n) ∧ Aside0 (n ≤ ns.length) ∧ Aside0 (ns.length - n < kq) ∧ Aside0 (w'.heap[ga]? = some (.cells #[.int .i64 t0, .slice A1 ns.length c1] 53 (0, 0))) ∧ Aside0 (w'.heap[gb]? = some (.cells #[.int .i64 t0, .slice B1 ns.length d1] 53 (0, 0))) ∧ Aside0 (Below w.heap.size w w'))
 case atStart => exact ⟨0, 0, rfl, ⟨rfl⟩, ⟨Nat.zero_le _⟩, ⟨by omega⟩, ⟨kb Bga⟩, ⟨kb Bgb⟩, ⟨kB0 HB⟩⟩
 case round =>
  clear HB Bga Bgb
  obtain ⟨x, n, rfl, hx, hn, hk, Bga, Bgb, HB⟩ := hrel
  cases gk with
  | zero => exact absurd hk.out (by omega)
  | succ k1 =>
   have he := blk2 (w := wr) Bga.out
   have hf := blk2 (w := wr) Bgb.out
   have hf2 := fun o => blk2 (w := wr.alloc o) (blk_alloc Bgb.out o)
   have hxx := hx.out
   have hnn := hn.out
   by_cases hend : n = ns.length
   ·have cnd : decide (x < (ns.length : Int)) = false := decide_eq_false (by omega)
    clear hxx hnn hend
    go_wp2
    go_ret
    exact ⟨rfl, kB0 HB⟩
   ·have cnd : decide (x < (ns.length : Int)) = true := decide_eq_true (by omega)
    have p1 : 0 ≤ x := by omega
    have p2 : x < (ns.length : Int) := by omega
    have hlt : n < ns.length := by omega
    obtain ⟨ad, A4, c4, rfl, e0, e1, e2, e3, e4, e5, e6, e7, l4, g4⟩ := at_T71 ha.out x p1 p2
    obtain ⟨bd, B4, d4, rfl, f0, f1, f2, f3, f4, f5, f6, f7, m4, h4⟩ := at_T71 hb.out x p1 p2
    obtain ⟨y, hy⟩ : ∃ y, y = rd_T71 ns x := ⟨_, rfl⟩
    rw [← hy] at e0 e1 e2 e3 e4 e5 e6 e7 l4 g4 f0 f1 f2 f3 f4 f5 f6 f7 m4 h4
    replace e0 := cB_ HB.out e0
    replace e1 := cB_ HB.out e1
    replace e2 := cB_ HB.out e2
    replace e3 := cB_ HB.out e3
    replace e4 := cB_ HB.out e4
    replace e5 := cB_ HB.out e5
    replace e6 := cB_ HB.out e6
    replace e7 := cB_ HB.out e7
    replace f0 := cB_ HB.out f0
    replace f1 := cB_ HB.out f1
    replace f2 := cB_ HB.out f2
    replace f3 := cB_ HB.out f3
    replace f4 := cB_ HB.out f4
    replace f5 := cB_ HB.out f5
    replace f6 := cB_ HB.out f6
    replace f7 := cB_ HB.out f7
    have g0a := fun o => (cB_ (below_alloc (Below.refl wr.heap.size wr) o) f0)
    have g1a := fun o => (cB_ (below_alloc (Below.refl wr.heap.size wr) o) f1)
    have g2a := fun o => (cB_ (below_alloc (Below.refl wr.heap.size wr) o) f2)
    have g3a := fun o => (cB_ (below_alloc (Below.refl wr.heap.size wr) o) f3)
    have g4a := fun o => (cB_ (below_alloc (Below.refl wr.heap.size wr) o) f4)
    have g5a := fun o => (cB_ (below_alloc (Below.refl wr.heap.size wr) o) f5)
    have g6a := fun o => (cB_ (below_alloc (Below.refl wr.heap.size wr) o) f6)
    have g7a := fun o => (cB_ (below_alloc (Below.refl wr.heap.size wr) o) f7)
    obtain ⟨ki, hki⟩ := ints_total y.f4 (show ReadsRow _ _ _ _ _ _ from g4).2.1
    have KI := aS_ hki
    have L4 := aS_ l4
    have M4 := aS_ m4
    have G4w : ∀ o o', Kd.C (Kd.int .i64) ((wr.alloc o).alloc o') A4 y.f4.length y.f4 := fun o o' => Kd.C_alloc (Kd.C_alloc (Kd.C_below g4 HB.out) o) o'
    have H4w : ∀ o o', Kd.C (Kd.int .i64) ((wr.alloc o).alloc o') B4 y.f4.length y.f4 := fun o o' => Kd.C_alloc (Kd.C_alloc (Kd.C_below h4 HB.out) o) o'
    have hX := blk8 (w := (wr.alloc (.cells #[.int .u8 y.f0, .int .i64 y.f1, .int .i64 y.f2, .float .f64 y.f3, .slice A4 y.f4.length c4, .int .u8 y.f5, .int .i64 y.f6, .int .i64 y.f7] 71 (0, 0))).alloc (.cells #[.int .u8 y.f0, .int .i64 y.f1, .int .i64 y.f2, .float .f64 y.f3, .slice B4 y.f4.length d4, .int .u8 y.f5, .int .i64 y.f6, .int .i64 y.f7] 71 (0, 0))) (blk_alloc (blk_new wr _) _)
    have hY := blk8 (w := (wr.alloc (.cells #[.int .u8 y.f0, .int .i64 y.f1, .int .i64 y.f2, .float .f64 y.f3, .slice A4 y.f4.length c4, .int .u8 y.f5, .int .i64 y.f6, .int .i64 y.f7] 71 (0, 0))).alloc (.cells #[.int .u8 y.f0, .int .i64 y.f1, .int .i64 y.f2, .float .f64 y.f3, .slice B4 y.f4.length d4, .int .u8 y.f5, .int .i64 y.f6, .int .i64 y.f7] 71 (0, 0))) (blk_new2 wr _ _)
    have HLT := aS_ hlt
    have XN := aS_ hxx
    replace p1 := eq_true p1
    replace p2 := eq_true p2
    clear hxx hnn hend hlt hy hki l4 m4 g4 h4
    go_wp2
    go_quiet (((go_at_call 36; exact Calls.quiet_of (((thicketref07_Ints.calls ki A4 c4 y.f4 B4 d4 y.f4 true _ (Kd.C_drewN (G4w _ _) _) L4.out (Kd.C_drewN (H4w _ _) _) M4.out KI.out).mono fun e w' h => ⟨h.1, h.2.out⟩)))))
    go_wp2
    go_roundg k1
    case measure => have := hk.out; omega
    case rel => exact ⟨_, n + 1, rfl, ⟨by have := XN.out; have := HLT.out; have := LN.out; unfold wrap64; omega⟩, ⟨HLT.out⟩, ⟨by have := hk.out; have := HLT.out; omega⟩, ⟨kb Bga⟩, ⟨kb Bgb⟩, ⟨kB0 HB⟩⟩
end
section
variable (nm : ByteArray) (fs : List ByteArray) (outs : Int) (bs : List Int) (ts : List S53) (AF : Option Addr) (cF : Nat) (AB : Option Addr) (cB : Nat) (AT : Option Addr) (cT : Nat) (BF : Option Addr) (dF : Nat) (BB : Option Addr) (dB : Nat) (BT : Option Addr) (dT : Nat)
set_option maxHeartbeats 16000000 in
set_option maxRecDepth 100000 in
theorem same_same (w : World) (hfs : Aside0 (Kd.C Kd.string w AF fs.length fs)) (hbs : Aside0 (Kd.C (Kd.int .i64) w AB bs.length bs)) (hts : Aside0 (Kd.C k53 w AT ts.length ts)) (gfs : Aside0 (Kd.C Kd.string w BF fs.length fs)) (gbs : Aside0 (Kd.C (Kd.int .i64) w BB bs.length bs)) (gts : Aside0 (Kd.C k53 w BT ts.length ts)) :
  Calls Try.prog 33 #[.agg #[.string nm, .slice AF fs.length cF, .int .i64 outs, .slice AB bs.length cB, .slice AT ts.length cT], .agg #[.string nm, .slice BF fs.length dF, .int .i64 outs, .slice BB bs.length dB, .slice BT ts.length dT]] w fun e w' => e = .returned (.bool true) ∧ Below w.heap.size w w' := by
 have HB := aS_ (Below.refl w.heap.size w)
 have LF := aS_ (show fs.length ≤ 9223372036854775807 from (show ReadsRow _ _ _ _ _ _ from hfs.out).2.1)
 have LB := aS_ (show bs.length ≤ 9223372036854775807 from (show ReadsRow _ _ _ _ _ _ from hbs.out).2.1)
 have LT := aS_ (show ts.length ≤ 9223372036854775807 from (show ReadsRow _ _ _ _ _ _ from hts.out).2.1)
 go_enter Try.func33, Try.ntmps33
 go_wp2_with (first | ((with_reducible refine gate_dst (N := 2) rfl ?_); refine box_event ?hg (N := 2) ?hd (cs := #[.string nm, .slice AF fs.length cF, .int .i64 outs, .slice AB bs.length cB, .slice AT ts.length cT]) (t := 63) ?hr ?_; (case hd => rfl); (case hg => rfl); (case hr => first | (go_simp; done) | (go_simp; rfl)); intro ga hg w1 hbox hb; have n0_ := aS_ (below_step (kB0 HB) hb); have Bga := aS_ hbox; clear HB; have HB := n0_; clear n0_ hb hbox hg) | ((with_reducible refine gate_dst (N := 3) rfl ?_); refine box_event ?hg (N := 3) ?hd (cs := #[.string nm, .slice BF fs.length dF, .int .i64 outs, .slice BB bs.length dB, .slice BT ts.length dT]) (t := 63) ?hr ?_; (case hd => rfl); (case hg => rfl); (case hr => first | (go_simp; done) | (go_simp; rfl)); intro gb hg w2 hbox hb; have n0_ := aS_ (below_step (kB0 HB) hb); have mga_ := aS_ (blk_below (kb Bga) hb); clear Bga; have Bga := mga_; clear mga_; have Bgb := aS_ hbox; clear HB; have HB := n0_; clear n0_ hb hbox hg; have he := blk5 (w := w2) Bga.out; have hf := blk5 (w := w2) Bgb.out))
 clear he hf
 go_loopg [50] (fs.length + 1) (fun kq v50 w' => ∃ (x : Int) (n : Nat), v50 = .int .i64 x ∧ Aside0 (x = n) ∧ Aside0 (n ≤ fs.length) ∧ Aside0 (fs.length - n < kq) ∧ Aside0 (w'.heap[ga]? = some (.cells #[.string nm, .slice AF fs.length cF, .int .i64 outs, .slice AB bs.length cB, .slice AT ts.length cT] 63 (0, 0))) ∧ Aside0 (w'.heap[gb]? = some (.cells #[.string nm, .slice BF fs.length dF, .int .i64 outs, .slice BB bs.length dB, .slice BT ts.length dT] 63 (0, 0))) ∧ Aside0 (Below w.heap.size w w'))
 case atStart => exact ⟨0, 0, rfl, ⟨rfl⟩, ⟨Nat.zero_le _⟩, ⟨by omega⟩, ⟨kb Bga⟩, ⟨kb Bgb⟩, ⟨kB0 HB⟩⟩
 case round =>
  clear HB Bga Bgb
  obtain ⟨x, n, rfl, hx, hn, hk, Bga, Bgb, HB⟩ := hrel
  cases gk with
  | zero => exact absurd hk.out (by omega)
  | succ k1 =>
   have he := blk5 (w := wr) Bga.out
   have hf := blk5 (w := wr) Bgb.out
   have hxx := hx.out
   have hnn := hn.out
   by_cases hend : n = fs.length
   ·have cnd : decide (x < (fs.length : Int)) = false := decide_eq_false (by omega)
    clear hxx hnn hend hx hn hk
    go_wp2
    clear he hf
    go_loopg [68] (bs.length + 1) (fun kq v68 w' => ∃ (x : Int) (n : Nat), v68 = .int .i64 x ∧ Aside0 (x = n) ∧ Aside0 (n ≤ bs.length) ∧ Aside0 (bs.length - n < kq) ∧ Aside0 (w'.heap[ga]? = some (.cells #[.string nm, .slice AF fs.length cF, .int .i64 outs, .slice AB bs.length cB, .slice AT ts.length cT] 63 (0, 0))) ∧ Aside0 (w'.heap[gb]? = some (.cells #[.string nm, .slice BF fs.length dF, .int .i64 outs, .slice BB bs.length dB, .slice BT ts.length dT] 63 (0, 0))) ∧ Aside0 (Below w.heap.size w w'))
    case atStart => exact ⟨0, 0, rfl, ⟨rfl⟩, ⟨Nat.zero_le _⟩, ⟨by omega⟩, ⟨kb Bga⟩, ⟨kb Bgb⟩, ⟨kB0 HB⟩⟩
    case round =>
     clear HB Bga Bgb
     obtain ⟨x, n, rfl, hx, hn, hk, Bga, Bgb, HB⟩ := hrel
     cases gk with
     | zero => exact absurd hk.out (by omega)
     | succ k2 =>
      have he := blk5 (w := wr) Bga.out
      have hf := blk5 (w := wr) Bgb.out
      have hxx := hx.out
      have hnn := hn.out
      by_cases hend : n = bs.length
      ·have cnd : decide (x < (bs.length : Int)) = false := decide_eq_false (by omega)
       clear hxx hnn hend hx hn hk
       go_wp2
       clear he hf
       go_loopg [86] (ts.length + 1) (fun kq v86 w' => ∃ (x : Int) (n : Nat), v86 = .int .i64 x ∧ Aside0 (x = n) ∧ Aside0 (n ≤ ts.length) ∧ Aside0 (ts.length - n < kq) ∧ Aside0 (w'.heap[ga]? = some (.cells #[.string nm, .slice AF fs.length cF, .int .i64 outs, .slice AB bs.length cB, .slice AT ts.length cT] 63 (0, 0))) ∧ Aside0 (w'.heap[gb]? = some (.cells #[.string nm, .slice BF fs.length dF, .int .i64 outs, .slice BB bs.length dB, .slice BT ts.length dT] 63 (0, 0))) ∧ Aside0 (Below w.heap.size w w'))
       case atStart => exact ⟨0, 0, rfl, ⟨rfl⟩, ⟨Nat.zero_le _⟩, ⟨by omega⟩, ⟨kb Bga⟩, ⟨kb Bgb⟩, ⟨kB0 HB⟩⟩
       case round =>
        clear HB Bga Bgb
        obtain ⟨x, n, rfl, hx, hn, hk, Bga, Bgb, HB⟩ := hrel
        cases gk with
        | zero => exact absurd hk.out (by omega)
        | succ k3 =>
         have he := blk5 (w := wr) Bga.out
         have hf := blk5 (w := wr) Bgb.out
         have hxx := hx.out
         have hnn := hn.out
         by_cases hend : n = ts.length
         ·have cnd : decide (x < (ts.length : Int)) = false := decide_eq_false (by omega)
          clear hxx hnn hend hx hn hk
          go_wp2
          go_ret
          exact ⟨rfl, kB0 HB⟩
         ·have cnd : decide (x < (ts.length : Int)) = true := decide_eq_true (by omega)
          have p1 : 0 ≤ x := by omega
          have p2 : x < (ts.length : Int) := by omega
          have hlt : n < ts.length := by omega
          obtain ⟨ad, A1, c1, rfl, e0, e1, l1, g1⟩ := at_T53 hts.out x p1 p2
          obtain ⟨bd, B1, d1, rfl, f0, f1, m1, h1⟩ := at_T53 gts.out x p1 p2
          obtain ⟨y, hy⟩ : ∃ y, y = rd_T53 ts x := ⟨_, rfl⟩
          rw [← hy] at e0 e1 l1 g1 f0 f1 m1 h1
          replace e0 := cB_ HB.out e0
          replace e1 := cB_ HB.out e1
          replace f0 := cB_ HB.out f0
          replace f1 := cB_ HB.out f1
          have G1 := aS_ g1
          have H1 := aS_ h1
          have L1t := aS_ l1
          have M1t := aS_ m1
          have HLT := aS_ hlt
          have XN := aS_ hxx
          replace p1 := eq_true p1
          replace p2 := eq_true p2
          clear hxx hnn hend hlt hy g1 h1 l1 m1
          go_wp2
          refine start_ (n := 12) (S := fun w' => w'.cell? ⟨ga, 4, none⟩ = some (.slice (some ad) ts.length cT) ∧ w'.cell? ⟨gb, 4, none⟩ = some (.slice (some bd) ts.length dT) ∧ w'.cell? (ad.add (x.toNat * 2)) = some (.int .i64 y.f0) ∧ w'.cell? ⟨(ad.add (x.toNat * 2)).block, (ad.add (x.toNat * 2)).off + 1, none⟩ = some (.slice A1 y.f1.length c1) ∧ w'.cell? (bd.add (x.toNat * 2)) = some (.int .i64 y.f0) ∧ w'.cell? ⟨(bd.add (x.toNat * 2)).block, (bd.add (x.toNat * 2)).off + 1, none⟩ = some (.slice B1 y.f1.length d1)) (ds := []) #[false, false, false, false, false, false, false, false, false, false, false, false] (by kernel_rfl) rfl rfl ⟨((blk_cell (blk_drew Bga.out) 4).trans rfl), ((blk_cell (blk_drew Bgb.out) 4).trans rfl), e0, e1, f0, f1⟩ (fun hHeld => ?_)
          refine pq_ (v := ?_) (b := ?_) (m := ?_) 0 (some 89) ?_
          refine pq_ (v := ?_) (b := ?_) (m := ?_) 2 (some 91) ?_
          refine pq_ (v := ?_) (b := ?_) (m := ?_) 5 (some 94) ?_
          refine pq_ (v := ?_) (b := ?_) (m := ?_) 7 (some 96) ?_
          refine tq_ (v := ?_) (b := ?_) (m := ?_) 1 (some 90) hHeld ?_
          refine pq_ (v := ?_) (b := ?_) (m := ?_) 3 (some 92) ?_
          refine tq_ (v := ?_) (b := ?_) (m := ?_) 4 (some 93) hHeld ?_
          refine tq_ (v := ?_) (b := ?_) (m := ?_) 6 (some 95) hHeld ?_
          refine pq_ (v := ?_) (b := ?_) (m := ?_) 8 (some 97) ?_
          refine tq_ (v := ?_) (b := ?_) (m := ?_) 9 (some 98) hHeld ?_
          refine oq_ (m := ?_) 10 (some 99) fun K hK => ?_
          refine goes_ Try.func55 (by kernel_rfl) rfl #[.agg #[.int .i64 y.f0, .slice A1 y.f1.length c1], .agg #[.int .i64 y.f0, .slice B1 y.f1.length d1]] (by rfl) rfl rfl (by (try simp only [List.map_toArray, List.map_cons, List.map_nil]); first | done | rfl) ?_
          refine (alike_same y.f0 A1 c1 B1 d1 y.f1 _ ⟨Kd.C_below G1.out (kB0 HB)⟩ L1t ⟨Kd.C_below H1.out (kB0 HB)⟩ M1t).mono ?_
          rintro e w6 ⟨rfl, hb⟩
          refine ⟨_, rfl, ?_⟩
          have n1_ := aS_ (below_step (kB0 HB) hb)
          have ma_ := aS_ (blk_below (kb Bga) hb)
          have mb_ := aS_ (blk_below (kb Bgb) hb)
          have q0 := cB_ hb hHeld.1
          have q1 := cB_ hb hHeld.2.1
          have q2 := cB_ hb hHeld.2.2.1
          have q3 := cB_ hb hHeld.2.2.2.1
          have q4 := cB_ hb hHeld.2.2.2.2.1
          have q5 := cB_ hb hHeld.2.2.2.2.2
          clear HB Bga Bgb hHeld
          have HB := n1_
          have Bga := ma_
          have Bgb := mb_
          clear n1_ ma_ mb_ hb
          refine hK.out _ _ ⟨q0, q1, q2, q3, q4, q5⟩ (fun hHeld => ?_)
          clear hK K
          refine nq_ (b := ?_) (some 99) ?_
          refine pq_ (v := ?_) (b := ?_) (m := ?_) 11 (some 100) ?_
          refine done_ (by kernel_rfl) ?_

          go_wp2
          go_roundg k3
          case measure => have := hk.out; omega
          case rel => exact ⟨_, n + 1, rfl, ⟨by have := XN.out; have := HLT.out; have := LT.out; unfold wrap64; omega⟩, ⟨HLT.out⟩, ⟨by have := hk.out; have := HLT.out; omega⟩, ⟨kb Bga⟩, ⟨kb Bgb⟩, ⟨kB0 HB⟩⟩
      ·have cnd : decide (x < (bs.length : Int)) = true := decide_eq_true (by omega)
       have p1 : 0 ≤ x := by omega
       have p2 : x < (bs.length : Int) := by omega
       have hlt : n < bs.length := by omega
       obtain ⟨ad, rfl, e1⟩ := Kd.at_int hbs.out x p1 p2
       obtain ⟨bd, rfl, f1⟩ := Kd.at_int gbs.out x p1 p2
       obtain ⟨y, hy⟩ : ∃ y, y = rd bs x := ⟨_, rfl⟩
       rw [← hy] at e1 f1
       replace e1 := cB_ HB.out e1
       replace f1 := cB_ HB.out f1
       have HLT := aS_ hlt
       have XN := aS_ hxx
       replace p1 := eq_true p1
       replace p2 := eq_true p2
       clear hxx hnn hend hlt hy
       go_wp2
       go_quiet (fail)
       go_wp2
       go_roundg k2
       case measure => have := hk.out; omega
       case rel => exact ⟨_, n + 1, rfl, ⟨by have := XN.out; have := HLT.out; have := LB.out; unfold wrap64; omega⟩, ⟨HLT.out⟩, ⟨by have := hk.out; have := HLT.out; omega⟩, ⟨kb Bga⟩, ⟨kb Bgb⟩, ⟨kB0 HB⟩⟩
   ·have cnd : decide (x < (fs.length : Int)) = true := decide_eq_true (by omega)
    have p1 : 0 ≤ x := by omega
    have p2 : x < (fs.length : Int) := by omega
    have hlt : n < fs.length := by omega
    obtain ⟨ad, rfl, e1⟩ := Kd.at_string hfs.out x p1 p2
    obtain ⟨bd, rfl, f1⟩ := Kd.at_string gfs.out x p1 p2
    obtain ⟨y, hy⟩ : ∃ y, y = rdOf ByteArray.empty fs x := ⟨_, rfl⟩
    rw [← hy] at e1 f1
    replace e1 := cB_ HB.out e1
    replace f1 := cB_ HB.out f1
    have HLT := aS_ hlt
    have XN := aS_ hxx
    replace p1 := eq_true p1
    replace p2 := eq_true p2
    clear hxx hnn hend hlt hy
    go_wp2
    go_quiet (fail)
    go_wp2
    go_roundg k1
    case measure => have := hk.out; omega
    case rel => exact ⟨_, n + 1, rfl, ⟨by have := XN.out; have := HLT.out; have := LF.out; unfold wrap64; omega⟩, ⟨HLT.out⟩, ⟨by have := hk.out; have := HLT.out; omega⟩, ⟨kb Bga⟩, ⟨kb Bgb⟩, ⟨kB0 HB⟩⟩
end
end Go.Proofs.Ytfmjgjfbnilpoaa.FAll
