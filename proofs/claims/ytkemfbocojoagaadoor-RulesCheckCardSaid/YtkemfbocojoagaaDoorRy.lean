/-
  Every Check and Valid of the program is the document's answer, for every ensemble, and the ensemble stays. Conditions: none but what the statement itself says: the table of classes (scan.classes) holds what its initialiser lays (tied by the given tie).
-/
import Derived.Test.YtkemfbocojoagaaDoorCards
import Derived.Test.YtkemfbocojoagaaDoorTie
import Derived.Test.YtkemfbocojoagaaDoorQl
import Derived.Test.YtkemfbocojoagaaDoorPq
import Derived.Test.YtkemfbocojoagaaDoorOe
import Derived.WalkKit
import Derived.ProofKit
import Derived.OpenShut
import Derived.ShutString
import Derived.Below
import Derived.SizedLaws
import Derived.Laws.Cover2
import Derived.Deep.DeepHandedRow
import Derived.Lib.LaidTab
import Derived.Stop.LaidErr
namespace Go.Proofs.YtkemfbocojoagaaDoor.rulesCheck
open Go.ChangeShapes Go.WideShapes Go.ChangeAt Go.RowKit Go.Proofs.YtkemfbocojoagaaDoor.FAll Go.Proofs.YtkemfbocojoagaaDoorW.PrintWords Go.Proofs.YtkemfbocojoagaaDoorW.PrintLast Go.Proofs.YtkemfbocojoagaaDoorW.PrintMore
set_option linter.unusedVariables false
set_option linter.unusedSimpArgs false

/-- The plain law and the walk together. -/
theorem law_any (x : Ens) (ok : okE x) (AF : Option Addr) (cF : Nat) (AB : Option Addr) (cB : Nat) (AT : Option Addr) (cT : Nat) (w : World) (ht : Tab w) (l1 : x.fs.length ≤ cF) (g1 : Kd.C Kd.string w AF x.fs.length x.fs) (l3 : x.bs.length ≤ cB) (g3 : Kd.C (Kd.int .i64) w AB x.bs.length x.bs) (l4 : x.ts.length ≤ cT) (g4 : Kd.C k36 w AT x.ts.length x.ts) :
    Calls Tryd.prog 3 #[.agg #[.string x.nm, .slice AF x.fs.length cF, .int .i64 x.outs, .slice AB x.bs.length cB, .slice AT x.ts.length cT]] w fun e w' => e = .returned (.bool true) ∧ Below w.heap.size w w' := by
  obtain ⟨o1, o2, o3, o4, o5⟩ := ok
  have hts : TreesOk x.ts := by
    intro y hy
    obtain ⟨_, hn, hn2⟩ := o5.2 y hy
    refine ⟨by omega, fun z hz => ?_⟩
    obtain ⟨_, _, _, h3, h4, _⟩ := hn2 z hz
    exact ⟨h3, by have := h4.1; omega⟩
  have h5 := o5.1
  have h4 := o4.1
  have h2 := o2.1
  obtain ⟨kc, hkc⟩ := copy_total x.nm x.fs x.outs x.bs x.ts hts (by omega) (by omega) (by omega)
  obtain ⟨kf, hkf⟩ := from_total 4611686018427387904
  obtain ⟨⟨r1, r2, r3⟩, hr⟩ : ∃ r, checkV shapeV x.nm x.fs x.outs x.bs x.ts = r := ⟨_, rfl⟩
  exact law_at x.nm AF cF x.fs x.outs AB cB x.bs AT cT x.ts shapeV w ⟨g1⟩ ⟨fun s hs => by have := o2.2 s hs; unfold maxLen; omega⟩ ⟨by unfold maxLen; omega⟩ ⟨g3⟩ ⟨g4⟩ ⟨ht⟩ ⟨l1⟩ ⟨l3⟩ ⟨l4⟩
    ⟨fun y hy => by
      obtain ⟨k, hk⟩ := (shapeV_spec y (hts y hy).1 (fun z hz => by have := ((hts y hy).2 z hz).2; omega)).1
      exact ⟨k, fun _ => hk⟩⟩
    kc ⟨hkc⟩ ⟨fun hl n hn => tree_total x.nm x.fs x.outs x.bs x.ts hts n hn hl⟩ mostL kf ⟨hkf⟩ _ ⟨rooms_total x.nm x.fs x.outs x.bs x.ts hts (by omega)⟩ r1 r2 r3 ⟨hr⟩ (check_zero shapeV x.nm x.fs x.outs x.bs x.ts hr)

theorem own : ownKnob Tryd.prog.godebug = none := by kernel_rfl
theorem laidOut : laidOutB Tryd.prog = true := by kernel_rfl
theorem gTType : (Tryd.prog.globals[0]?).map (·.type) = some 88 := by kernel_rfl
theorem cellsArr : Tryd.prog.cellsOf 88 = 128 := by kernel_rfl
theorem cellsEl : Tryd.prog.cellsOf 76 = 1 := by kernel_rfl
theorem table {W : World} (h : laidMetH Tryd.prog Rows.rulesCheckRow.laid W) : Tab W := by
  have h0 : laidMet Tryd.prog [("thicket/scan.classes", Rows.laid_thicket_scan_classes)] W := h
  have e : (Rows.laid_thicket_scan_classes : DataW Unit) = Lib.tabData .u8 classTab := by kernel_rfl
  rw [e] at h0
  exact Lib.tabIs_of_head (rest := []) gTab gTType Tryd.underlying88 Tryd.underlying76 cellsEl cellsArr h0

theorem contract (H : Type) (enc : TypeId × Value → H) (W : World) (base : Nat) (args : Array Value) (ds gs : List (DataW H)) (before : List MemPlace)
    (hval : ∀ (j : Nat) t v, Tryd.f3.params[j]? = some t → args[j]? = some v → Value.okWide Tryd.prog W .any base t v)
    (hW : DataW.Whole enc Tryd.prog Tryd.f3.params.toList Rows.rulesCheckSpec.vars false W args.toList ds gs before)
    (hsz : (DataW.weightsEach Tryd.prog (Tryd.f3.params.toList ++ Rows.rulesCheckSpec.plain.varTypes Tryd.prog) (ds ++ gs)).all (· ≤ reachBytes) = true) (hL : laidMetH Tryd.prog Rows.rulesCheckRow.laid W) :
    Calls Tryd.prog 3 args W fun e W' => ∃ v, e = .returned v ∧ Rows.rulesCheckSpec.post enc Tryd.prog Tryd.f3 false true false false W args v W' := by
  have hW' := hW
  obtain ⟨p, q, hA0, hV, rfl, hfz, hnd⟩ := hW
  have hA : DataW.TrodAll enc Tryd.prog W 0 (fun _ => true) true Tryd.f3.params.toList args.toList ds p := hA0
  rw [Tryd.params3] at hA hval hsz
  obtain ⟨v0, vs0, d0, ds0, p0, q0, hargs, rfl, rfl, h0, r0⟩ := trodAll_cons hA
  obtain ⟨rfl, rfl, rfl⟩ := trodAll_nil r0
  obtain rfl : args = #[v0] := by cases args; simp_all
  obtain ⟨rfl, rfl⟩ := trodVars_none hV
  have lt0 : ∀ x ∈ p0, x.block < W.heap.size := by obtain ⟨m, hm⟩ := h0; exact DataW.trod_lt m _ _ _ hm
  obtain ⟨x0, K0, O0⟩ := (by obtain ⟨m, hm⟩ := h0; exact oE.opn m _ _ hm (fun n hn => by simpa using List.all_eq_true.1 hsz n (DataW.weights_mem_each (j := 0) rfl rfl n hn)) : ∃ x : Ens, kE.K W x v0.cells.toList ∧ okE x)
  obtain ⟨AF, cF, AB, cB, AT, cT, e0, l1, g1, l3, g3, l4, g4⟩ := kE_open K0
  obtain rfl := vo_struct Tryd.underlying26 (hval 0 26 v0 rfl rfl) e0
  refine (law_any x0 O0 AF cF AB cB AT cT W (table hL) l1 g1 l3 g3 l4 g4).mono ?_
  rintro e W' ⟨rfl, bel⟩
  exact ⟨_, rfl, _, _, _, [], _, [], hW', trodAll_mk1 (shut_bool Tryd.underlying4 _), (trodAll_cons_mk (Below.trod laidOut (by kernel_rfl) (of_decide_eq_true (by kernel_rfl)) h0 bel lt0) trodAll_mk0), rfl, bel.frame _, fun h => by cases h⟩

/-- A world for the witness: the table holds what its initialiser lays. -/
def lay (cs : Array Value) : Obj → Obj
  | .cells _ t frozen => .cells cs t frozen
  | o => o
noncomputable def laidWorld (os : Os) : World :=
  { World.holding Tryd.prog os ⟨#[], #[], []⟩ with heap := ((World.holding Tryd.prog os ⟨#[], #[], []⟩).heap.modify 0 (lay #[.int .u8 0, .int .u8 0, .int .u8 0, .int .u8 0, .int .u8 0, .int .u8 0, .int .u8 0, .int .u8 0, .int .u8 0, .int .u8 32, .int .u8 0, .int .u8 0, .int .u8 0, .int .u8 0, .int .u8 0, .int .u8 0, .int .u8 0, .int .u8 0, .int .u8 0, .int .u8 0, .int .u8 0, .int .u8 0, .int .u8 0, .int .u8 0, .int .u8 0, .int .u8 0, .int .u8 0, .int .u8 0, .int .u8 0, .int .u8 0, .int .u8 0, .int .u8 0, .int .u8 32, .int .u8 0, .int .u8 0, .int .u8 0, .int .u8 0, .int .u8 0, .int .u8 0, .int .u8 0, .int .u8 16, .int .u8 16, .int .u8 0, .int .u8 4, .int .u8 16, .int .u8 4, .int .u8 8, .int .u8 0, .int .u8 0, .int .u8 0, .int .u8 0, .int .u8 0, .int .u8 0, .int .u8 0, .int .u8 0, .int .u8 0, .int .u8 0, .int .u8 0, .int .u8 16, .int .u8 16, .int .u8 16, .int .u8 16, .int .u8 16, .int .u8 0, .int .u8 0, .int .u8 0, .int .u8 0, .int .u8 0, .int .u8 0, .int .u8 0, .int .u8 0, .int .u8 0, .int .u8 0, .int .u8 0, .int .u8 0, .int .u8 0, .int .u8 0, .int .u8 0, .int .u8 0, .int .u8 0, .int .u8 0, .int .u8 0, .int .u8 0, .int .u8 0, .int .u8 0, .int .u8 0, .int .u8 0, .int .u8 0, .int .u8 0, .int .u8 0, .int .u8 0, .int .u8 16, .int .u8 0, .int .u8 16, .int .u8 0, .int .u8 1, .int .u8 0, .int .u8 0, .int .u8 0, .int .u8 0, .int .u8 0, .int .u8 0, .int .u8 0, .int .u8 0, .int .u8 0, .int .u8 0, .int .u8 0, .int .u8 0, .int .u8 0, .int .u8 0, .int .u8 0, .int .u8 0, .int .u8 0, .int .u8 0, .int .u8 0, .int .u8 0, .int .u8 0, .int .u8 0, .int .u8 0, .int .u8 0, .int .u8 0, .int .u8 0, .int .u8 0, .int .u8 16, .int .u8 16, .int .u8 16, .int .u8 0, .int .u8 0])) }
theorem laid_met (os : Os) : laidMet Tryd.prog Rows.rulesCheckRow.laid ((laidWorld os).forCall (fun _ _ => 0) ⟨#[], #[.agg #[.string ByteArray.empty, .slice none 0 0, .int .i64 0, .slice none 0 0, .slice none 0 0]], []⟩).memory :=
  laidMet_of_run' 200 (by kernel_rfl) (by kernel_rfl)
theorem reads (os : Os) {H : Type} (enc : TypeId × Value → H) : ∃ places, DataW.whole enc Tryd.prog ((laidWorld os).forCall (fun _ _ => 0) ⟨#[], #[.agg #[.string ByteArray.empty, .slice none 0 0, .int .i64 0, .slice none 0 0, .slice none 0 0]], []⟩).memory Tryd.f3.params.toList Rows.rulesCheckSpec.vars false #[Value.agg #[.string ByteArray.empty, .slice none 0 0, .int .i64 0, .slice none 0 0, .slice none 0 0]].toList 200 = some ([.agg [.lit (.string []), .nil, .lit (.int .i64 0), .nil, .nil]], [], places) :=
  ⟨[], by kernel_rfl⟩

set_option maxRecDepth 100000 in
theorem lifted (os : Os) (started : os.Started) (H : Type) (enc : TypeId × Value → H) (F : Stop.Interp) :
    ReturnsInHanded {} Tryd.checked os 3 .any ((OpenSpec.ofChange Rows.rulesCheckSpec).preRow enc Tryd.prog Tryd.f3 Rows.rulesCheckRow.domain false Rows.rulesCheckRow.laid) (((OpenSpec.ofChange Rows.rulesCheckSpec).at F).post enc Tryd.prog Tryd.f3 false true false false) := by
  obtain ⟨places, hx⟩ := reads os enc
  refine returnsInHanded_of_row (C := Tryd.checked) (s := OpenSpec.ofChange Rows.rulesCheckSpec) own started (by kernel_rfl) Tryd.func3
    (witness_row_at (enc := enc) (C := Tryd.checked) false (laidWorld os) #[.agg #[.string ByteArray.empty, .slice none 0 0, .int .i64 0, .slice none 0 0, .slice none 0 0]] rfl (by kernel_rfl) (by kernel_rfl) (by kernel_rfl)
      (OpenSpec.preRow_of_cond 200 hx (by kernel_rfl) (fun k hk => by cases hk) (by kernel_rfl) (laid_met os))) ?_
  intro W base args ds gs before hval hW _ _ hsz hL _ _
  exact contract H enc W base args ds gs before hval hW hsz hL

theorem said : Rows.RulesCheckSaid :=
  OpenClaim.holds_of_cond 3 Tryd.f3 rfl rfl rfl rfl rfl rfl rfl ⟨rfl, rfl, rfl, rfl, rfl⟩ rfl rfl rfl rfl rfl (by kernel_rfl) Tryd.func3 (by kernel_rfl)
    (of_decide_eq_true (by kernel_rfl)) (by unfold Func.isWrapper; first | (rw [if_pos (by decide +kernel)]; kernel_rfl) | (rw [if_neg (by decide +kernel)]; exact ⟨rfl, rfl⟩))
    (fun os started H enc _ F => by rw [OpenClaim.pre_eq_preRow]; exact lifted os started H enc F)

/-- No parameter wants a stand-in; the program's own looks are off: what the card asks. -/
theorem plain (f : FuncId) (fn : Func) (hf : Tryd.pinned.checked.prog.funcNamed "thicket/thicketlaw08.RulesCheck" = some f) (hfn : Tryd.pinned.checked.prog.funcs[f]? = some fn) :
    false = Tryd.pinned.checked.prog.looks [] ∧ ∀ (j : Nat) t, fn.params[j]? = some t → Tryd.pinned.checked.prog.wantsStandIn t = false := by
  obtain rfl : f = 3 := Option.some.inj ((show Tryd.prog.funcNamed "thicket/thicketlaw08.RulesCheck" = some 3 by kernel_rfl).symm.trans hf) |>.symm
  obtain rfl : fn = Tryd.f3 := (Option.some.inj (Tryd.func3.symm.trans hfn)).symm
  refine ⟨by kernel_rfl, fun j t ht => ?_⟩
  rw [Tryd.params3] at ht
  obtain rfl : t = 26 := by simpa using Array.mem_of_getElem? ht
  exact (show Tryd.prog.wantsStandIn 26 = false by kernel_rfl)

theorem card : Rows.RulesCheckCardSaid :=
  Claim7.holds_tied_plain_at .later [] _ _ _ _ said (fun _ h => by cases h) (by kernel_rfl) (fun _ h => by cases h) rulesCheck_row_tie rfl ⟨rfl, rfl⟩ (by kernel_rfl) rfl plain (by kernel_rfl)
end Go.Proofs.YtkemfbocojoagaaDoor.rulesCheck
