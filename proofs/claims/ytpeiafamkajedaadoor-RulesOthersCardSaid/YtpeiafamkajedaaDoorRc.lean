/-
  rules.Check: the rules ahead of the trees, each a function that captured the ensemble or a feature's name.
-/
import Derived.Test.YtpeiafamkajedaaDoorNm
import Derived.Test.YtpeiafamkajedaaDoorRo
import Derived.Maps.OwnOps
namespace Go.Proofs.YtpeiafamkajedaaDoor.FAll
open Go.RowKit Go.Shelf Go.Maps Go.WideMaps Go.Proofs.YtpeiafamkajedaaDoorW.PrintWords Go.Proofs.YtpeiafamkajedaaDoorW.PrintLast Go.Proofs.YtpeiafamkajedaaDoorW.PrintMore
set_option linter.unusedVariables false
set_option linter.unusedSimpArgs false
section
variable (ge gf : Nat) (nm : ByteArray) (AF : Option Addr) (nf cF : Nat) (outs : Int) (AB : Option Addr) (nb cB : Nat) (AT : Option Addr) (nt cT : Nat) (s : ByteArray) (w : World)

set_option maxHeartbeats 8000000 in
set_option maxRecDepth 100000 in
theorem checkRule1 (BE : Aside0 (w.heap[ge]? = some (.cells #[.string nm, .slice AF nf cF, .int .i64 outs, .slice AB nb cB, .slice AT nt cT] 26 (0, 0)))) (ht : Aside0 (Tab w)) (r : Bool) (H : Aside0 (decide (NameB nm) = r)) :
    Calls Tryd.prog 24 #[.pointer (some ⟨ge, 0, none⟩)] w fun e w' => e = .returned (.bool r) ∧ Below w.heap.size w w' := by
  have HB := Aside0.mk (Below.refl w.heap.size w)
  have he := blk5 (w := w) BE.out
  go_enter Tryd.func24, Tryd.ntmps24
  go_wp2_with (first | (go_at_call 25; (with_reducible refine (scan_Name.calls nm r H _ ?side1).mono ?_); (case side1 => exact ⟨tab_below ht.out (kB0 HB)⟩); rintro e w' ⟨rfl, ⟨⟨nd, rfl⟩⟩⟩))
  all_goals first
    | (go_ret; refine ⟨congrArg (fun z => Ending.returned (Value.bool z)) ?_, kB0 HB⟩; have h := H.out; first | rfl | exact h | (rw [← h]; first | exact (decide_eq_true (by omega)).symm | exact (decide_eq_false (by omega)).symm | exact decide_eq_decide.2 (by omega) | (apply Bool.eq_iff_iff.mpr; simp; done) | (apply Bool.eq_iff_iff.mpr; simp; omega)))
    | (exfalso; first | (simp_all; done) | (simp_all; omega))

set_option maxHeartbeats 8000000 in
set_option maxRecDepth 100000 in
theorem checkRule2 (BE : Aside0 (w.heap[ge]? = some (.cells #[.string nm, .slice AF nf cF, .int .i64 outs, .slice AB nb cB, .slice AT nt cT] 26 (0, 0)))) (r : Bool) (H : Aside0 (decide (1 ≤ nf ∧ nf ≤ 65536) = r)) :
    Calls Tryd.prog 26 #[.pointer (some ⟨ge, 0, none⟩)] w fun e w' => e = .returned (.bool r) ∧ Below w.heap.size w w' := by
  have HB := Aside0.mk (Below.refl w.heap.size w)
  have he := blk5 (w := w) BE.out
  go_enter Tryd.func26, Tryd.ntmps26
  go_wp2
  all_goals first
    | (go_ret; refine ⟨congrArg (fun z => Ending.returned (Value.bool z)) ?_, kB0 HB⟩; have h := H.out; first | rfl | exact h | (rw [← h]; first | exact (decide_eq_true (by omega)).symm | exact (decide_eq_false (by omega)).symm | exact decide_eq_decide.2 (by omega) | (apply Bool.eq_iff_iff.mpr; simp; done) | (apply Bool.eq_iff_iff.mpr; simp; omega)))
    | (exfalso; first | (simp_all; done) | (simp_all; omega))

set_option maxHeartbeats 8000000 in
set_option maxRecDepth 100000 in
theorem checkRule3 (BF : Aside0 (w.heap[gf]? = some (.cells #[.string s] 9 (0, 0)))) (ht : Aside0 (Tab w)) (r : Bool) (H : Aside0 (decide (NameB s) = r)) :
    Calls Tryd.prog 27 #[.pointer (some ⟨gf, 0, none⟩)] w fun e w' => e = .returned (.bool r) ∧ Below w.heap.size w w' := by
  have HB := Aside0.mk (Below.refl w.heap.size w)
  have hf := blk1 (w := w) BF.out
  go_enter Tryd.func27, Tryd.ntmps27
  go_wp2_with (first | (go_at_call 25; (with_reducible refine (scan_Name.calls s r H _ ?side1).mono ?_); (case side1 => exact ⟨tab_below ht.out (kB0 HB)⟩); rintro e w' ⟨rfl, ⟨⟨nd, rfl⟩⟩⟩))
  all_goals first
    | (go_ret; refine ⟨congrArg (fun z => Ending.returned (Value.bool z)) ?_, kB0 HB⟩; have h := H.out; first | rfl | exact h | (rw [← h]; first | exact (decide_eq_true (by omega)).symm | exact (decide_eq_false (by omega)).symm | exact decide_eq_decide.2 (by omega) | (apply Bool.eq_iff_iff.mpr; simp; done) | (apply Bool.eq_iff_iff.mpr; simp; omega)))
    | (exfalso; first | (simp_all; done) | (simp_all; omega))

set_option maxHeartbeats 8000000 in
set_option maxRecDepth 100000 in
theorem checkRule5 (BE : Aside0 (w.heap[ge]? = some (.cells #[.string nm, .slice AF nf cF, .int .i64 outs, .slice AB nb cB, .slice AT nt cT] 26 (0, 0)))) (r : Bool) (H : Aside0 (decide (1 ≤ outs ∧ outs ≤ 64) = r)) :
    Calls Tryd.prog 29 #[.pointer (some ⟨ge, 0, none⟩)] w fun e w' => e = .returned (.bool r) ∧ Below w.heap.size w w' := by
  have HB := Aside0.mk (Below.refl w.heap.size w)
  have he := blk5 (w := w) BE.out
  go_enter Tryd.func29, Tryd.ntmps29
  go_wp2
  all_goals first
    | (go_ret; refine ⟨congrArg (fun z => Ending.returned (Value.bool z)) ?_, kB0 HB⟩; have h := H.out; first | rfl | exact h | (rw [← h]; first | exact (decide_eq_true (by omega)).symm | exact (decide_eq_false (by omega)).symm | exact decide_eq_decide.2 (by omega) | (apply Bool.eq_iff_iff.mpr; simp; done) | (apply Bool.eq_iff_iff.mpr; simp; omega)))
    | (exfalso; first | (simp_all; done) | (simp_all; omega))

set_option maxHeartbeats 8000000 in
set_option maxRecDepth 100000 in
theorem checkRule6 (BE : Aside0 (w.heap[ge]? = some (.cells #[.string nm, .slice AF nf cF, .int .i64 outs, .slice AB nb cB, .slice AT nt cT] 26 (0, 0)))) (r : Bool) (H : Aside0 (decide ((nb : Int) = outs) = r)) :
    Calls Tryd.prog 30 #[.pointer (some ⟨ge, 0, none⟩)] w fun e w' => e = .returned (.bool r) ∧ Below w.heap.size w w' := by
  have HB := Aside0.mk (Below.refl w.heap.size w)
  have he := blk5 (w := w) BE.out
  go_enter Tryd.func30, Tryd.ntmps30
  go_wp2
  all_goals first
    | (go_ret; refine ⟨congrArg (fun z => Ending.returned (Value.bool z)) ?_, kB0 HB⟩; have h := H.out; first | rfl | exact h | (rw [← h]; first | exact (decide_eq_true (by omega)).symm | exact (decide_eq_false (by omega)).symm | exact decide_eq_decide.2 (by omega) | (apply Bool.eq_iff_iff.mpr; simp; done) | (apply Bool.eq_iff_iff.mpr; simp; omega)))
    | (exfalso; first | (simp_all; done) | (simp_all; omega))

set_option maxHeartbeats 8000000 in
set_option maxRecDepth 100000 in
theorem checkRule7 (BE : Aside0 (w.heap[ge]? = some (.cells #[.string nm, .slice AF nf cF, .int .i64 outs, .slice AB nb cB, .slice AT nt cT] 26 (0, 0)))) (r : Bool) (H : Aside0 (decide (nt ≤ 65536) = r)) :
    Calls Tryd.prog 31 #[.pointer (some ⟨ge, 0, none⟩)] w fun e w' => e = .returned (.bool r) ∧ Below w.heap.size w w' := by
  have HB := Aside0.mk (Below.refl w.heap.size w)
  have he := blk5 (w := w) BE.out
  go_enter Tryd.func31, Tryd.ntmps31
  go_wp2
  all_goals first
    | (go_ret; refine ⟨congrArg (fun z => Ending.returned (Value.bool z)) ?_, kB0 HB⟩; have h := H.out; first | rfl | exact h | (rw [← h]; first | exact (decide_eq_true (by omega)).symm | exact (decide_eq_false (by omega)).symm | exact decide_eq_decide.2 (by omega) | (apply Bool.eq_iff_iff.mpr; simp; done) | (apply Bool.eq_iff_iff.mpr; simp; omega)))
    | (exfalso; first | (simp_all; done) | (simp_all; omega))
end
theorem mapLaw : Keyed Tryd.prog 9 := string_keyed Tryd.underlying9
theorem zeroInt (w : World) : (zeroValue 3).run Tryd.prog w = .ok (.int .i64 0) w := by kernel_rfl
section
variable (gm gf b n : Nat) (D : DataW Unit) (s : ByteArray) (c : Int) (w : World)
set_option maxHeartbeats 8000000 in
set_option maxRecDepth 100000 in
theorem checkRule4 (BM : Aside0 (w.heap[gm]? = some (.cells #[.map (some b)] 75 (0, 0)))) (BF : Aside0 (w.heap[gf]? = some (.cells #[.string s] 9 (0, 0)))) (hown : Aside0 (w.ownsMap Tryd.prog 9 (plainElem Tryd.prog 3) b n D)) (hs : Aside0 (s.size ≤ maxLen)) (hat : Aside0 (D.atKey (.string s.data.toList) (.lit (.int .i64 0)) = .lit (.int .i64 c))) (r : Bool) (H : Aside0 (decide (c = 1) = r)) :
    Calls Tryd.prog 28 #[.pointer (some ⟨gm, 0, none⟩), .pointer (some ⟨gf, 0, none⟩)] w fun e w' => e = .returned (.bool r) ∧ Below w.heap.size w w' := by
  have HB := Aside0.mk (Below.refl w.heap.size w)
  have hm := blk1 (w := w) BM.out
  have hf := blk1 (w := w) BF.out
  have hkey : Aside0 (keyOf Tryd.prog 9 (.string s) = some (.string s.data.toList)) := ⟨keyOf_string_mk Tryd.underlying9 hs.out⟩
  go_enter Tryd.func28, Tryd.ntmps28
  go_wp2_with (first | (at_lookup; refine wpList_lookup_own_int _ rfl _ _ 75 rfl 9 3 .i64 mapLaw Tryd.underlying75 Tryd.underlying3 (zeroInt _) b n _ rfl hown.out _ _ rfl hkey.out ?_; intro c2 hat2 hwc; obtain rfl : c2 = c := by (have h := hat2.symm.trans hat.out; injection h with h; injection h with _ h)))
  go_ret
  refine ⟨congrArg (fun z => Ending.returned (Value.bool z)) ?_, kB0 HB⟩
  rw [← H.out]
  apply Bool.eq_iff_iff.mpr
  simp
end
end Go.Proofs.YtpeiafamkajedaaDoor.FAll
