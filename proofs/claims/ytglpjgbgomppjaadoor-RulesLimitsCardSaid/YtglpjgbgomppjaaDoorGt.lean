/-
  thicketlaw08.at, where the one ensemble is right and the other breaks the rule that is told.
-/
import Derived.Test.YtglpjgbgomppjaaDoorRv
import Derived.Test.YtglpjgbgomppjaaDoorPh
namespace Go.Proofs.YtglpjgbgomppjaaDoor.FAll
open Go.RowKit Go.Shelf Go.Maps Go.WideMaps Go.Proofs.YtglpjgbgomppjaaDoorW.PrintWords Go.Proofs.YtglpjgbgomppjaaDoorW.PrintLast Go.Proofs.YtglpjgbgomppjaaDoorW.PrintMore
attribute [local go_sem] fstore_walk
set_option linter.unusedVariables false
set_option linter.unusedSimpArgs false
section
variable (nm : ByteArray) (AF : Option Addr) (cF : Nat) (fs : List ByteArray) (outs : Int) (AB : Option Addr) (cB : Nat) (bs : List Int) (AT : Option Addr) (cT : Nat) (ts : List S33)
  (mn : ByteArray) (BF : Option Addr) (dF : Nat) (gs : List ByteArray) (puts : Int) (BB : Option Addr) (dB : Nat) (cs : List Int) (BT : Option Addr) (dT : Nat) (us : List S33)
set_option maxHeartbeats 16000000 in
set_option maxRecDepth 100000 in
theorem at_true (w : World) (htab : Aside0 (Tab w))
    (e1 : Aside0 (Kd.C Kd.string w AF fs.length fs)) (ez : Aside0 (∀ s ∈ fs, s.size ≤ maxLen)) (e3 : Aside0 (Kd.C (Kd.int .i64) w AB bs.length bs)) (e4 : Aside0 (Kd.C k33 w AT ts.length ts)) (es : Aside0 (∀ y ∈ ts, ∃ k, 1 ≤ y.f1.length → trees_Shape.f k y.f0 y.f1 = some ((shapeV y).1, (shapeV y).2)))
    (f1 : Aside0 (Kd.C Kd.string w BF gs.length gs)) (fz : Aside0 (∀ s ∈ gs, s.size ≤ maxLen)) (f3 : Aside0 (Kd.C (Kd.int .i64) w BB cs.length cs)) (f4 : Aside0 (Kd.C k33 w BT us.length us)) (fs_ : Aside0 (∀ y ∈ us, ∃ k, 1 ≤ y.f1.length → trees_Shape.f k y.f0 y.f1 = some ((shapeV y).1, (shapeV y).2)))
    (r r2 r3 : Int) (HE : Aside0 (checkV shapeV nm fs outs bs ts = (0, 0, 0))) (HF : Aside0 (checkV shapeV mn gs puts cs us = (r, r2, r3))) :
    Calls Tryd.prog 8 #[.agg #[.string nm, .slice AF fs.length cF, .int .i64 outs, .slice AB bs.length cB, .slice AT ts.length cT], .agg #[.string mn, .slice BF gs.length dF, .int .i64 puts, .slice BB cs.length dB, .slice BT us.length dT], .int .i64 r] w fun e w' => e = .returned (.bool true) ∧ Below w.heap.size w w' := by
  have HB := Aside0.mk (Below.refl w.heap.size w)
  go_enter Tryd.func8, Tryd.ntmps8
  go_wp2_with (first | ((with_reducible refine gate_dst (N := 3) rfl ?_); refine box_event ?hg (N := 3) ?hd (cs := #[.string nm, .slice AF fs.length cF, .int .i64 outs, .slice AB bs.length cB, .slice AT ts.length cT]) (t := 26) ?hr ?_; (case hd => rfl); (case hg => rfl); (case hr => first | (go_simp; done) | (go_simp; rfl)); intro ga hg w1 hbox hb; have n0_ := Aside0.mk (below_step (kB0 HB) hb); have Bga := Aside0.mk hbox; clear HB; have HB := n0_; clear n0_ hb hbox hg; have ha := blk5 (w := w1) Bga.out) | ((with_reducible refine gate_dst (N := 4) rfl ?_); refine box_event ?hg (N := 4) ?hd (cs := #[.string mn, .slice BF gs.length dF, .int .i64 puts, .slice BB cs.length dB, .slice BT us.length dT]) (t := 26) ?hr ?_; (case hd => rfl); (case hg => rfl); (case hr => first | (go_simp; done) | (go_simp; rfl)); intro gb hg w2 hbox hb; have n0_ := Aside0.mk (below_step (kB0 HB) hb); have mga_ := Aside0.mk (blk_below (kb Bga) hb); clear Bga; have Bga := mga_; clear mga_; have Bgb := Aside0.mk hbox; clear HB; have HB := n0_; clear n0_ hb hbox hg; have ha := blk5 (w := w2) Bga.out; have hb5 := blk5 (w := w2) Bgb.out) | (go_at_call 16; refine (rules_Check.calls mn BF dF gs puts BB dB cs BT dT us shapeV _ ⟨Kd.C_below f1.out (kB0 HB)⟩ fz ⟨Kd.C_below f3.out (kB0 HB)⟩ ⟨Kd.C_below f4.out (kB0 HB)⟩ ⟨tab_below htab.out (kB0 HB)⟩ fs_ r r2 r3 HF).mono ?_; rintro e w3 ⟨rfl, hb⟩; have n0_ := Aside0.mk (below_step (kB0 HB) hb); have m1_ := Aside0.mk (blk_below (kb Bga) hb); have m2_ := Aside0.mk (blk_below (kb Bgb) hb); have S3 := Aside0.mk (rfl : w3 = w3); clear HB Bga Bgb ha hb5 hb; have HB := n0_; have Bga := m1_; have Bgb := m2_; clear n0_ m1_ m2_; have ha := fun o => blk5 (w := w3.alloc o) (blk_alloc Bga.out o)) | (go_at_call 17; refine (rules_Valid.calls nm AF cF fs outs AB cB bs AT cT ts shapeV _ ⟨Kd.C_below e1.out (below_alloc HB.out _)⟩ ez ⟨Kd.C_below e3.out (below_alloc HB.out _)⟩ ⟨Kd.C_below e4.out (below_alloc HB.out _)⟩ ⟨tab_below htab.out (below_alloc HB.out _)⟩ es 0 0 0 HE).mono ?_; rintro e w4 ⟨rfl, hb⟩; have hc := blk3 (w := w4) (blk_below (blk_new w3 (.cells #[.int .i64 r, .int .i64 r2, .int .i64 r3] 53 (0, 0))) hb); have n0_ := Aside0.mk (below_step (below_alloc HB.out _) hb); clear HB Bga Bgb ha hb; have HB := n0_; clear n0_))
  go_ret
  exact ⟨by first | rfl | (simp; done), kB0 HB⟩
end
end Go.Proofs.YtglpjgbgomppjaaDoor.FAll
