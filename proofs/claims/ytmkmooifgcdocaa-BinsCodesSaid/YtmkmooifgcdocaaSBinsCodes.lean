/-
  The program's Codes, Point and Right answer what the document's answer, for all bins, vectors, features and codes. Conditions: none: every input that the statement speaks of.
  The frame was written by lawS.py, a program of ours.
-/
import Derived.Test.YtmkmooifgcdocaaRows
import Derived.Test.YtmkmooifgcdocaaFAllx14
import Derived.Test.YtmkmooifgcdocaaOp
import Derived.Test.YtmkmooifgcdocaaKBinsCodes
import Derived.Test.YtmkmooifgcdocaaPureBinsCodes
import Derived.WalkKit
import Derived.ProofKit
import Derived.OpenShut
import Derived.ShutString
import Derived.ChangeOld
import Derived.Below
import Derived.SizedLaws
import Derived.Laws.Cover2
namespace Go.Proofs.Ytmkmooifgcdocaa.binsCodes
open Go.RowKit Go.Proofs.Ytmkmooifgcdocaa.FAll Go.Proofs.YtmkmooifgcdocaaW.PrintWords Go.Proofs.YtmkmooifgcdocaaW.PrintLast Go.Proofs.YtmkmooifgcdocaaW.PrintMore
open Go.ChangeShapes Go.WideShapes Go.ChangeAt
set_option linter.unusedVariables false
set_option linter.unusedSimpArgs false
theorem own : ownKnob Try.prog.godebug = none := by kernel_rfl
theorem laidOut : laidOutB Try.prog = true := by kernel_rfl
theorem o33 : Opens Try.prog 33 Kd.f64 (fun x => x < 2 ^ 64) := opens_f64 Try.underlying33 (by kernel_rfl)
theorem o26 : Opens Try.prog 26 (Kd.slice 33 Kd.f64) ok26 := opens_slice (b := 8) Try.underlying26 (by kernel_rfl) (by kernel_rfl) o33
theorem o22 : Opens Try.prog 22 (Kd.slice 26 (Kd.slice 33 Kd.f64)) ok22 := opens_slice (b := 24) Try.underlying22 (by kernel_rfl) (by kernel_rfl) o26
theorem o3 : Opens Try.prog 3 (Kd.int .i64) (fun x => (Lit.int .i64 x).wf = true) := opens_int Try.underlying3 (by kernel_rfl)
theorem o47 : Opens Try.prog 47 (Kd.slice 3 (Kd.int .i64)) ok47 := opens_slice (b := 8) Try.underlying47 (by kernel_rfl) (by kernel_rfl) o3
theorem o23 : Opens Try.prog 23 (Kd.slice 47 (Kd.slice 3 (Kd.int .i64))) ok23 := opens_slice (b := 24) Try.underlying23 (by kernel_rfl) (by kernel_rfl) o47
theorem o25 : Opens Try.prog 25 k25 ok25 := (opens_struct (fun p => (⟨p.1, p.2⟩ : S25)) (fun _ => rfl) Try.underlying25 (by kernel_rfl) (opensF_cons rfl o22 (opensF_one rfl o23))).mono fun _ h => h
theorem o4 : Opens Try.prog 4 Kd.bool (fun x => True) := opens_bool Try.underlying4 (by kernel_rfl)
theorem o28 : Opens Try.prog 28 k28 ok28 := (opens_struct (fun p => (⟨p.1, p.2.1, p.2.2⟩ : S28)) (fun _ => rfl) Try.underlying28 (by kernel_rfl) (opensF_cons rfl o3 (opensF_cons rfl o3 (opensF_one rfl o4)))).mono fun _ h => h
set_option maxRecDepth 100000 in
theorem lifted (os : Os) (started : os.Started) (H : Type) (enc : TypeId × Value → H) :
    ReturnsInHanded {} Try.checked os 3 .any (Rows.binsCodesSpec.pre6 enc Try.prog Try.f3 Rows.binsCodesRow.domain false) (Rows.binsCodesSpec.post enc Try.prog Try.f3 false true false false) := by
  refine returnsInHanded_of_change_sized (C := Try.checked) own started (by kernel_rfl) Try.func3
    (ChangeSpec.witness6 (enc := enc) (C := Try.checked) false ⟨#[], #[.agg #[.slice none 0 0, .slice none 0 0], .slice none 0 0, .int .i64 0, .agg #[.int .i64 0, .int .i64 0, .bool false]], []⟩ 8 (by kernel_rfl) (by kernel_rfl) (by kernel_rfl) (by kernel_rfl)) ?_
  intro W base args ds gs before hval0 hW hcnd hsz0 _
  have hsz : (DataW.weightsEach Try.prog (Try.f3.params.toList ++ Rows.binsCodesSpec.plain.varTypes Try.prog) (ds ++ gs)).all (· ≤ reachBytes) = true := hsz0
  have hval : ∀ (j : Nat) t v, Try.f3.params[j]? = some t → args[j]? = some v → Value.okWide Try.prog W .any base t v := hval0
  have hW' := hW
  obtain ⟨p, q, hA0, hV, rfl, hfz, hnd⟩ := hW
  have hA : DataW.TrodAll enc Try.prog W 0 (fun _ => true) true Try.f3.params.toList args.toList ds p := hA0
  rw [Try.params3] at hA hval hsz
  obtain ⟨v0, vs0, d0, ds0, p0, q0, hargs, rfl, rfl, h0, r0⟩ := trodAll_cons hA
  obtain ⟨v1, vs1, d1, ds1, p1, q1, rfl, rfl, rfl, h1, r1⟩ := trodAll_cons r0
  obtain ⟨v2, vs2, d2, ds2, p2, q2, rfl, rfl, rfl, h2, r2⟩ := trodAll_cons r1
  obtain ⟨v3, vs3, d3, ds3, p3, q3, rfl, rfl, rfl, h3, r3⟩ := trodAll_cons r2
  obtain ⟨rfl, rfl, rfl⟩ := trodAll_nil r3
  obtain rfl : args = #[v0, v1, v2, v3] := by cases args; simp_all
  obtain ⟨rfl, rfl⟩ := trodVars_none hV
  have lt0 : ∀ x ∈ p0, x.block < W.heap.size := by obtain ⟨m, hm⟩ := h0; exact DataW.trod_lt m _ _ _ hm
  obtain ⟨x0, K0, O0⟩ := (by obtain ⟨m, hm⟩ := h0; exact o25.opn m _ _ hm (fun n hn => by simpa using List.all_eq_true.1 hsz n (DataW.weights_mem_each (j := 0) rfl rfl n hn)) : ∃ x : S25, k25.K W x v0.cells.toList ∧ ok25 x)
  obtain ⟨A0_0, c0_0, A0_1, c0_1, e0, l0_0, g0_0, l0_1, g0_1⟩ := k25_open K0
  obtain rfl := vo_struct Try.underlying25 (hval 0 25 v0 rfl rfl) e0
  have lt1 : ∀ x ∈ p1, x.block < W.heap.size := by obtain ⟨m, hm⟩ := h1; exact DataW.trod_lt m _ _ _ hm
  obtain ⟨x1, K1, O1⟩ := (by obtain ⟨m, hm⟩ := h1; exact o26.opn m _ _ hm (fun n hn => by simpa using List.all_eq_true.1 hsz n (DataW.weights_mem_each (j := 1) rfl rfl n hn)) : ∃ x : List Nat, (Kd.slice 33 Kd.f64).K W x v1.cells.toList ∧ ok26 x)
  obtain ⟨A1, c1, e1, l1, g1⟩ := K1
  obtain rfl := vo_slice Try.underlying26 (hval 1 26 v1 rfl rfl) e1
  have lt2 : ∀ x ∈ p2, x.block < W.heap.size := by obtain ⟨m, hm⟩ := h2; exact DataW.trod_lt m _ _ _ hm
  obtain ⟨x2, K2, O2⟩ := (by obtain ⟨m, hm⟩ := h2; exact o3.opn m _ _ hm (fun n hn => by simpa using List.all_eq_true.1 hsz n (DataW.weights_mem_each (j := 2) rfl rfl n hn)) : ∃ x : Int, (Kd.int .i64).K W x v2.cells.toList ∧ (Lit.int .i64 x).wf = true)
  obtain rfl := vo_int Try.underlying3 (hval 2 3 v2 rfl rfl) K2
  have lt3 : ∀ x ∈ p3, x.block < W.heap.size := by obtain ⟨m, hm⟩ := h3; exact DataW.trod_lt m _ _ _ hm
  obtain ⟨x3, K3, O3⟩ := (by obtain ⟨m, hm⟩ := h3; exact o28.opn m _ _ hm (fun n hn => by simpa using List.all_eq_true.1 hsz n (DataW.weights_mem_each (j := 3) rfl rfl n hn)) : ∃ x : S28, k28.K W x v3.cells.toList ∧ ok28 x)
  have e3 := k28_open K3
  obtain rfl := vo_struct Try.underlying28 (hval 3 28 v3 rfl rfl) e3
  clear hA0 hval0 hsz0 hsz
  obtain ⟨k, hk⟩ := Pure.holds x0 x1 x2 x3 O0 O1 O2 O3
  refine (thicketlaw20_BinsCodes.calls k _ _ x0.f0 _ _ x0.f1 _ _ x1 x2 x3.f0 x3.f1 x3.f2 true W g0_0 l0_0 g0_1 l0_1 g1 l1 hk).mono ?_
  rintro e W' ⟨rfl, bel0⟩
  have bel : Below W.heap.size W W' := bel0
  exact ⟨_, rfl, _, _, _, [], _, [], hW', trodAll_mk1 (shut_bool Try.underlying4 _), (trodAll_cons_mk (Below.trod laidOut (by kernel_rfl) (of_decide_eq_true (by kernel_rfl)) h0 bel lt0) (trodAll_cons_mk (Below.trod laidOut (by kernel_rfl) (of_decide_eq_true (by kernel_rfl)) h1 bel lt1) (trodAll_cons_mk (Below.trod laidOut (by kernel_rfl) (of_decide_eq_true (by kernel_rfl)) h2 bel lt2) (trodAll_cons_mk (Below.trod laidOut (by kernel_rfl) (of_decide_eq_true (by kernel_rfl)) h3 bel lt3) trodAll_mk0)))), rfl, bel.frame _, fun h => by cases h⟩
theorem over : Rows.binsCodesRow.holds Try.pinned (OpenSpec.ofChange Rows.binsCodesSpec) :=
  OpenClaim.holds_of_wide 3 Try.f3 rfl rfl rfl rfl rfl rfl rfl ⟨rfl, rfl, rfl, rfl, rfl⟩ rfl rfl rfl rfl rfl (by kernel_rfl) Try.func3 (by kernel_rfl)
    (of_decide_eq_true (by kernel_rfl)) (by unfold Func.isWrapper; first | (rw [if_pos (by decide +kernel)]; kernel_rfl) | (rw [if_neg (by decide +kernel)]; exact ⟨rfl, rfl⟩))
    (fun os started H enc _ => lifted os started H enc)
theorem proved : Rows.BinsCodesSaid := over
end Go.Proofs.Ytmkmooifgcdocaa.binsCodes
