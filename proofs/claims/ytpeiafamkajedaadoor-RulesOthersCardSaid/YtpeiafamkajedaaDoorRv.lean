/-
  rules.Valid.
-/
import Derived.Test.YtpeiafamkajedaaDoorRk
import Derived.Laws.StructEq
namespace Go.Proofs.YtpeiafamkajedaaDoor.FAll
open Go.RowKit Go.Shelf Go.Maps Go.WideMaps Go.Proofs.YtpeiafamkajedaaDoorW.PrintWords Go.Proofs.YtpeiafamkajedaaDoorW.PrintLast Go.Proofs.YtpeiafamkajedaaDoorW.PrintMore
set_option linter.unusedVariables false
set_option linter.unusedSimpArgs false
section
variable (nm : ByteArray) (AF : Option Addr) (cF : Nat) (fs : List ByteArray) (outs : Int) (AB : Option Addr) (cB : Nat) (bs : List Int) (AT : Option Addr) (cT : Nat) (ts : List S37)
set_option maxHeartbeats 8000000 in
set_option maxRecDepth 100000 in
theorem rules_Valid.calls (sh : S37 → Int × Int) (w : World) (hfs : Aside0 (Kd.C Kd.string w AF fs.length fs)) (hsz : Aside0 (∀ s ∈ fs, s.size ≤ maxLen)) (hbs : Aside0 (Kd.C (Kd.int .i64) w AB bs.length bs)) (hts : Aside0 (Kd.C k37 w AT ts.length ts)) (htab : Aside0 (Tab w))
    (hsh : Aside0 (∀ y ∈ ts, ∃ k, 1 ≤ y.f1.length → trees_Shape.f k y.f0 y.f1 = some ((sh y).1, (sh y).2))) (r1 r2 r3 : Int) (H : Aside0 (checkV sh nm fs outs bs ts = (r1, r2, r3))) :
    Calls Tryd.prog 6 #[.agg #[.string nm, .slice AF fs.length cF, .int .i64 outs, .slice AB bs.length cB, .slice AT ts.length cT]] w fun e w' => e = .returned (.bool (decide (r1 = 0 ∧ r2 = 0 ∧ r3 = 0))) ∧ Below w.heap.size w w' := by
  have HB := Aside0.mk (Below.refl w.heap.size w)
  go_enter Tryd.func6, Tryd.ntmps6
  go_wp2_with (first | ((with_reducible refine gate_dst (N := 1) rfl ?_); refine box_event ?hg (N := 1) ?hd (cs := #[.string nm, .slice AF fs.length cF, .int .i64 outs, .slice AB bs.length cB, .slice AT ts.length cT]) (t := 26) ?hr ?_; (case hd => rfl); (case hg => rfl); (case hr => first | (go_simp; done) | (go_simp; rfl)); intro ge hg w1 hbox hb; have n0_ := Aside0.mk (below_step (kB0 HB) hb); have Bge := Aside0.mk hbox; clear HB; have HB := n0_; clear n0_ hb hbox hg; have he := blk5 (w := w1) Bge.out) | (go_at_call 13; refine (rules_Check.calls nm AF cF fs outs AB cB bs AT cT ts sh _ ⟨Kd.C_below hfs.out (kB0 HB)⟩ hsz ⟨Kd.C_below hbs.out (kB0 HB)⟩ ⟨Kd.C_below hts.out (kB0 HB)⟩ ⟨tab_below htab.out (kB0 HB)⟩ hsh r1 r2 r3 H).mono ?_; rintro e w2 ⟨rfl, hb⟩; have n1_ := Aside0.mk (below_step (kB0 HB) hb); clear HB; have HB := n1_; clear n1_ hb))
  all_goals
    go_ret
    refine ⟨congrArg (fun z => Ending.returned (Value.bool z)) ?_, kB0 HB⟩
    first | (symm; apply decide_eq_true; refine ⟨?_, ?_, ?_⟩ <;> first | assumption | rfl | (simp_all; done)) | (symm; apply decide_eq_false; intro h; simp_all; done) | (simp_all; done)
end
end Go.Proofs.YtpeiafamkajedaaDoor.FAll
