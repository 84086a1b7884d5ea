/-
  In a right ensemble no sum wraps along the way: for every ensemble and every vector. Conditions: none but what the statement itself says: the table of classes (scan.classes) holds what its initialiser lays (tied by the given tie).
-/
import Derived.Test.YtdflbplblanefaaDoorCards
import Derived.Test.YtdflbplblanefaaDoorTie
import Derived.Test.YtdflbplblanefaaDoorWn
import Derived.Test.YtdflbplblanefaaDoorTi
import Derived.Test.YtdflbplblanefaaDoorOf
import Derived.Test.YtdflbplblanefaaDoorOe
import Derived.WalkKit
import Derived.ProofKit
import Derived.OpenShut
import Derived.ShutString
import Derived.Below
import Derived.SizedLaws
import Derived.Laws.Cover2
import Derived.Deep.DeepHandedRow
import Derived.Lib.LaidTab
import Derived.Stop.LaidErr
namespace Go.Proofs.YtdflbplblanefaaDoor.rulesWraps
open Go.ChangeShapes Go.WideShapes Go.ChangeAt Go.RowKit Go.Proofs.YtdflbplblanefaaDoor.FAll Go.Proofs.YtdflbplblanefaaDoorW.PrintWords Go.Proofs.YtdflbplblanefaaDoorW.PrintLast Go.Proofs.YtdflbplblanefaaDoorW.PrintMore
set_option linter.unusedVariables false
set_option linter.unusedSimpArgs false

/-- The plain law and the walk together. -/
theorem law_any (x : Ens) (ok : okE x) (v : List Nat) (okv : okFs v) (AF : Option Addr) (cF : Nat) (AB : Option Addr) (cB : Nat) (AT : Option Addr) (cT : Nat) (AX : Option Addr) (cX : Nat) (w : World) (ht : Tab w) (l1 : x.fs.length ≤ cF) (g1 : Kd.C Kd.string w AF x.fs.length x.fs) (l3 : x.bs.length ≤ cB) (g3 : Kd.C (Kd.int .i64) w AB x.bs.length x.bs) (l4 : x.ts.length ≤ cT) (g4 : Kd.C k35 w AT x.ts.length x.ts) (lv : v.length ≤ cX) (gv : Kd.f64.C w AX v.length v) :
    Calls Tryd.prog 3 #[.agg #[.string x.nm, .slice AF x.fs.length cF, .int .i64 x.outs, .slice AB x.bs.length cB, .slice AT x.ts.length cT], .slice AX v.length cX] w fun e w' => e = .returned (.bool true) ∧ Below w.heap.size w w' := by
  obtain ⟨o1, o2, o3, o4, o5⟩ := ok
  have hts : ∀ y ∈ x.ts, y.f1.length ≤ 1759218604441 ∧ ∀ z ∈ y.f1, z.f4.length ≤ 9223372036854775807 := by
    intro y hy
    obtain ⟨_, hn, hn2⟩ := o5.2 y hy
    refine ⟨by omega, fun z hz => ?_⟩
    obtain ⟨_, _, _, _, h4, _⟩ := hn2 z hz
    have := h4.1
    omega
  have h5 := o5.1
  have hsh : ∀ y ∈ x.ts, ∃ k, 1 ≤ y.f1.length → trees_Shape.f k y.f0 y.f1 = some ((shapeV y).1, (shapeV y).2) := fun y hy => by
    obtain ⟨⟨k, hk⟩, _⟩ := shapeV_spec y (hts y hy).1 (hts y hy).2
    exact ⟨k, fun _ => hk⟩
  have hsz : ∀ s ∈ x.fs, s.size ≤ maxLen := fun s hs => by have := o2.2 s hs; unfold maxLen; omega
  obtain ⟨⟨r1, r2, r3⟩, hr⟩ : ∃ r, checkV shapeV x.nm x.fs x.outs x.bs x.ts = r := ⟨_, rfl⟩
  by_cases hz : r1 = 0
  · obtain ⟨rfl, rfl⟩ := check_zero shapeV x.nm x.fs x.outs x.bs x.ts hr hz
    subst hz
    by_cases hx : v.length = x.fs.length
    · have good := check_good _ _ _ _ _ _ hr
      have tg := trees_good hts good v hx
      have fine : ∀ n : Nat, n < x.ts.length → (rd_T35 x.ts (n : Int)) ∈ x.ts ∧ TreeFine (rd_T35 x.ts (n : Int)).f1 := by
        intro n hn
        have hmem : rd_T35 x.ts (n : Int) ∈ x.ts := by
          unfold rd_T35
          rw [Int.toNat_natCast, List.getD_eq_getElem?_getD, List.getElem?_eq_getElem hn]
          exact List.getElem_mem hn
        refine ⟨hmem, ?_⟩
        have hg := treesV_all shapeV x.fs.length x.outs x.ts _ _ good.trees n (by omega) (by omega)
        obtain ⟨_, _, _, g4⟩ := treeV_good hg
        obtain ⟨_, hs⟩ := shapeV_spec _ (hts _ hmem).1 (hts _ hmem).2
        exact (hs g4).2
      have hO : ∀ n : Nat, n < x.ts.length → 0 ≤ (rd_T35 x.ts (n : Int)).f0 ∧ (rd_T35 x.ts (n : Int)).f0 < (x.bs.length : Int) := fun n hn => by
        have h1 := (tg n hn).2.out
        have h2 := good.base
        omega
      refine wraps_right x.nm AF cF x.fs x.outs AB cB x.bs AT cT x.ts AX cX v w ⟨g1⟩ ⟨hsz⟩ ⟨g3⟩ ⟨g4⟩ ⟨gv⟩ ⟨ht⟩ ⟨hsh⟩ ⟨hr⟩ ⟨good.outs1⟩ ⟨good.base⟩ ⟨by omega⟩ ⟨hx⟩ (fun n => wayM (rd_T35 x.ts (n : Int)).f1 v) ⟨fun n hn => (tg n hn).2⟩ ⟨fun n hn => ⟨tree_is (fine n hn).2, ?_⟩⟩ ⟨no_wrap x.bs x.ts v _ (fun b hb => o4.2 b hb) good.sums hO (fun n hn => ?_)⟩
      · have := (hts _ (fine n hn).1).1
        obtain ⟨T, hT⟩ := tree_is (fine n hn).2
        have hg := treesV_all shapeV x.fs.length x.outs x.ts _ _ good.trees n (by omega) (by omega)
        obtain ⟨_, g2, _, _⟩ := treeV_good hg
        omega
      · exact leaf_abs (fine n hn).2 v _ (tg n hn).2.way (o5.2 _ (fine n hn).1).2.2
    · exact wraps_wrong x.nm AF cF x.fs x.outs AB cB x.bs AT cT x.ts AX cX v w ⟨g1⟩ ⟨hsz⟩ ⟨g3⟩ ⟨g4⟩ ⟨ht⟩ ⟨hsh⟩ 0 0 0 ⟨hr⟩ (.inr ⟨rfl, rfl, rfl, hx⟩)
  · exact wraps_wrong x.nm AF cF x.fs x.outs AB cB x.bs AT cT x.ts AX cX v w ⟨g1⟩ ⟨hsz⟩ ⟨g3⟩ ⟨g4⟩ ⟨ht⟩ ⟨hsh⟩ r1 r2 r3 ⟨hr⟩ (.inl hz)

theorem own : ownKnob Tryd.prog.godebug = none := by kernel_rfl
theorem laidOut : laidOutB Tryd.prog = true := by kernel_rfl
theorem gTType : (Tryd.prog.globals[0]?).map (·.type) = some 109 := by kernel_rfl
theorem cellsArr : Tryd.prog.cellsOf 109 = 128 := by kernel_rfl
theorem cellsEl : Tryd.prog.cellsOf 92 = 1 := by kernel_rfl
theorem table {W : World} (h : laidMetH Tryd.prog Rows.rulesWrapsRow.laid W) : Tab W := by
  have h0 : laidMet Tryd.prog [("thicket/scan.classes", Rows.laid_thicket_scan_classes)] W := h
  have e : (Rows.laid_thicket_scan_classes : DataW Unit) = Lib.tabData .u8 classTab := by kernel_rfl
  rw [e] at h0
  exact Lib.tabIs_of_head (rest := []) gTab gTType Tryd.underlying109 Tryd.underlying92 cellsEl cellsArr h0

set_option maxRecDepth 100000 in
theorem contract (H : Type) (enc : TypeId × Value → H) (W : World) (base : Nat) (args : Array Value) (ds gs : List (DataW H)) (before : List MemPlace)
    (hval : ∀ (j : Nat) t v, Tryd.f3.params[j]? = some t → args[j]? = some v → Value.okWide Tryd.prog W .any base t v)
    (hW : DataW.Whole enc Tryd.prog Tryd.f3.params.toList Rows.rulesWrapsSpec.vars false W args.toList ds gs before)
    (hsz : (DataW.weightsEach Tryd.prog (Tryd.f3.params.toList ++ Rows.rulesWrapsSpec.plain.varTypes Tryd.prog) (ds ++ gs)).all (· ≤ reachBytes) = true) (hL : laidMetH Tryd.prog Rows.rulesWrapsRow.laid W) :
    Calls Tryd.prog 3 args W fun e W' => ∃ v, e = .returned v ∧ Rows.rulesWrapsSpec.post enc Tryd.prog Tryd.f3 false true false false W args v W' := by
  have hW' := hW
  obtain ⟨p, q, hA0, hV, rfl, hfz, hnd⟩ := hW
  have hA : DataW.TrodAll enc Tryd.prog W 0 (fun _ => true) true Tryd.f3.params.toList args.toList ds p := hA0
  rw [Tryd.params3] at hA hval hsz
  obtain ⟨v0, vs0, d0, ds0, p0, q0, hargs, rfl, rfl, h0, r0⟩ := trodAll_cons hA
  obtain ⟨v1, vs1, d1, ds1, p1, q1, rfl, rfl, rfl, h1, r1⟩ := trodAll_cons r0
  obtain ⟨rfl, rfl, rfl⟩ := trodAll_nil r1
  obtain rfl : args = #[v0, v1] := by cases args; simp_all
  obtain ⟨rfl, rfl⟩ := trodVars_none hV
  have lt0 : ∀ x ∈ p0, x.block < W.heap.size := by obtain ⟨m, hm⟩ := h0; exact DataW.trod_lt m _ _ _ hm
  obtain ⟨x0, K0, O0⟩ := (by obtain ⟨m, hm⟩ := h0; exact oE.opn m _ _ hm (fun n hn => by simpa using List.all_eq_true.1 hsz n (DataW.weights_mem_each (j := 0) rfl rfl n hn)) : ∃ x : Ens, kE.K W x v0.cells.toList ∧ okE x)
  obtain ⟨AF0, cF0, AB0, cB0, AT0, cT0, e0, l1_0, g1_0, l3_0, g3_0, l4_0, g4_0⟩ := kE_open K0
  obtain rfl := vo_struct Tryd.underlying26 (hval 0 26 v0 rfl rfl) e0
  have lt1 : ∀ x ∈ p1, x.block < W.heap.size := by obtain ⟨m, hm⟩ := h1; exact DataW.trod_lt m _ _ _ hm
  obtain ⟨x1, K1, O1⟩ := (by obtain ⟨m, hm⟩ := h1; exact oFs.opn m _ _ hm (fun n hn => by simpa using List.all_eq_true.1 hsz n (DataW.weights_mem_each (j := 1) rfl rfl n hn)) : ∃ x : List Nat, (Kd.slice 58 Kd.f64).K W x v1.cells.toList ∧ okFs x)
  obtain ⟨A1, c1, e1, l1, g1⟩ := K1
  obtain rfl := vo_slice Tryd.underlying27 (hval 1 27 v1 rfl rfl) e1
  refine (law_any x0 O0 x1 O1 AF0 cF0 AB0 cB0 AT0 cT0 A1 c1 W (table hL) l1_0 g1_0 l3_0 g3_0 l4_0 g4_0 l1 g1).mono ?_
  rintro e W' ⟨rfl, bel⟩
  exact ⟨_, rfl, _, _, _, [], _, [], hW', trodAll_mk1 (shut_bool Tryd.underlying4 _), (trodAll_cons_mk (Below.trod laidOut (by kernel_rfl) (of_decide_eq_true (by kernel_rfl)) h0 bel lt0) (trodAll_cons_mk (Below.trod laidOut (by kernel_rfl) (of_decide_eq_true (by kernel_rfl)) h1 bel lt1) trodAll_mk0)), rfl, bel.frame _, fun h => by cases h⟩

/-- A world for the witness: the table holds what its initialiser lays. -/
def lay (cs : Array Value) : Obj → Obj
  | .cells _ t frozen => .cells cs t frozen
  | o => o
noncomputable def laidWorld (os : Os) : World :=
  { World.holding Tryd.prog os ⟨#[], #[], []⟩ with heap := ((World.holding Tryd.prog os ⟨#[], #[], []⟩).heap.modify 0 (lay #[.int .u8 0, .int .u8 0, .int .u8 0, .int .u8 0, .int .u8 0, .int .u8 0, .int .u8 0, .int .u8 0, .int .u8 0, .int .u8 32, .int .u8 0, .int .u8 0, .int .u8 0, .int .u8 0, .int .u8 0, .int .u8 0, .int .u8 0, .int .u8 0, .int .u8 0, .int .u8 0, .int .u8 0, .int .u8 0, .int .u8 0, .int .u8 0, .int .u8 0, .int .u8 0, .int .u8 0, .int .u8 0, .int .u8 0, .int .u8 0, .int .u8 0, .int .u8 0, .int .u8 32, .int .u8 0, .int .u8 0, .int .u8 0, .int .u8 0, .int .u8 0, .int .u8 0, .int .u8 0, .int .u8 16, .int .u8 16, .int .u8 0, .int .u8 4, .int .u8 16, .int .u8 4, .int .u8 8, .int .u8 0, .int .u8 0, .int .u8 0, .int .u8 0, .int .u8 0, .int .u8 0, .int .u8 0, .int .u8 0, .int .u8 0, .int .u8 0, .int .u8 0, .int .u8 16, .int .u8 16, .int .u8 16, .int .u8 16, .int .u8 16, .int .u8 0, .int .u8 0, .int .u8 0, .int .u8 0, .int .u8 0, .int .u8 0, .int .u8 0, .int .u8 0, .int .u8 0, .int .u8 0, .int .u8 0, .int .u8 0, .int .u8 0, .int .u8 0, .int .u8 0, .int .u8 0, .int .u8 0, .int .u8 0, .int .u8 0, .int .u8 0, .int .u8 0, .int .u8 0, .int .u8 0, .int .u8 0, .int .u8 0, .int .u8 0, .int .u8 0, .int .u8 0, .int .u8 16, .int .u8 0, .int .u8 16, .int .u8 0, .int .u8 1, .int .u8 0, .int .u8 0, .int .u8 0, .int .u8 0, .int .u8 0, .int .u8 0, .int .u8 0, .int .u8 0, .int .u8 0, .int .u8 0, .int .u8 0, .int .u8 0, .int .u8 0, .int .u8 0, .int .u8 0, .int .u8 0, .int .u8 0, .int .u8 0, .int .u8 0, .int .u8 0, .int .u8 0, .int .u8 0, .int .u8 0, .int .u8 0, .int .u8 0, .int .u8 0, .int .u8 0, .int .u8 16, .int .u8 16, .int .u8 16, .int .u8 0, .int .u8 0])) }
theorem laid_met (os : Os) : laidMet Tryd.prog Rows.rulesWrapsRow.laid ((laidWorld os).forCall (fun _ _ => 0) ⟨#[], #[Value.agg #[.string ByteArray.empty, .slice none 0 0, .int .i64 0, .slice none 0 0, .slice none 0 0], .slice none 0 0], []⟩).memory :=
  laidMet_of_run' 200 (by kernel_rfl) (by kernel_rfl)
theorem reads (os : Os) {H : Type} (enc : TypeId × Value → H) : ∃ places, DataW.whole enc Tryd.prog ((laidWorld os).forCall (fun _ _ => 0) ⟨#[], #[Value.agg #[.string ByteArray.empty, .slice none 0 0, .int .i64 0, .slice none 0 0, .slice none 0 0], .slice none 0 0], []⟩).memory Tryd.f3.params.toList Rows.rulesWrapsSpec.vars false #[Value.agg #[.string ByteArray.empty, .slice none 0 0, .int .i64 0, .slice none 0 0, .slice none 0 0], .slice none 0 0].toList 200 = some ([.agg [.lit (.string []), .nil, .lit (.int .i64 0), .nil, .nil], .nil], [], places) :=
  ⟨[], by kernel_rfl⟩

set_option maxRecDepth 100000 in
theorem lifted (os : Os) (started : os.Started) (H : Type) (enc : TypeId × Value → H) (F : Stop.Interp) :
    ReturnsInHanded {} Tryd.checked os 3 .any ((OpenSpec.ofChange Rows.rulesWrapsSpec).preRow enc Tryd.prog Tryd.f3 Rows.rulesWrapsRow.domain false Rows.rulesWrapsRow.laid) (((OpenSpec.ofChange Rows.rulesWrapsSpec).at F).post enc Tryd.prog Tryd.f3 false true false false) := by
  obtain ⟨places, hx⟩ := reads os enc
  refine returnsInHanded_of_row (C := Tryd.checked) (s := OpenSpec.ofChange Rows.rulesWrapsSpec) own started (by kernel_rfl) Tryd.func3
    (witness_row_at (enc := enc) (C := Tryd.checked) false (laidWorld os) #[Value.agg #[.string ByteArray.empty, .slice none 0 0, .int .i64 0, .slice none 0 0, .slice none 0 0], .slice none 0 0] rfl (by kernel_rfl) (by kernel_rfl) (by kernel_rfl)
      (OpenSpec.preRow_of_cond 200 hx (by kernel_rfl) (fun k hk => by cases hk) (by kernel_rfl) (laid_met os))) ?_
  intro W base args ds gs before hval hW _ _ hsz hL _ _
  exact contract H enc W base args ds gs before hval hW hsz hL

theorem said : Rows.RulesWrapsSaid :=
  OpenClaim.holds_of_cond 3 Tryd.f3 rfl rfl rfl rfl rfl rfl rfl ⟨rfl, rfl, rfl, rfl, rfl⟩ rfl rfl rfl rfl rfl (by kernel_rfl) Tryd.func3 (by kernel_rfl)
    (of_decide_eq_true (by kernel_rfl)) (by unfold Func.isWrapper; first | (rw [if_pos (by decide +kernel)]; kernel_rfl) | (rw [if_neg (by decide +kernel)]; exact ⟨rfl, rfl⟩))
    (fun os started H enc _ F => by rw [OpenClaim.pre_eq_preRow]; exact lifted os started H enc F)

/-- No parameter wants a stand-in; the program's own looks are off: what the card asks. -/
theorem plain (f : FuncId) (fn : Func) (hf : Tryd.pinned.checked.prog.funcNamed "thicket/thicketlaw08.RulesWraps" = some f) (hfn : Tryd.pinned.checked.prog.funcs[f]? = some fn) :
    false = Tryd.pinned.checked.prog.looks [] ∧ ∀ (j : Nat) t, fn.params[j]? = some t → Tryd.pinned.checked.prog.wantsStandIn t = false := by
  obtain rfl : f = 3 := Option.some.inj ((show Tryd.prog.funcNamed "thicket/thicketlaw08.RulesWraps" = some 3 by kernel_rfl).symm.trans hf) |>.symm
  obtain rfl : fn = Tryd.f3 := (Option.some.inj (Tryd.func3.symm.trans hfn)).symm
  refine ⟨by kernel_rfl, fun j t ht => ?_⟩
  rw [Tryd.params3] at ht
  have hm : t = 26 ∨ t = 27 := by simpa using Array.mem_of_getElem? ht
  rcases hm with rfl | rfl
  · exact (show Tryd.prog.wantsStandIn 26 = false by kernel_rfl)
  · exact (show Tryd.prog.wantsStandIn 27 = false by kernel_rfl)

theorem card : Rows.RulesWrapsCardSaid :=
  Claim7.holds_tied_plain_at .later [] _ _ _ _ said (fun _ h => by cases h) (by kernel_rfl) (fun _ h => by cases h) rulesWraps_row_tie rfl ⟨rfl, rfl⟩ (by kernel_rfl) rfl plain (by kernel_rfl)
end Go.Proofs.YtdflbplblanefaaDoor.rulesWraps
