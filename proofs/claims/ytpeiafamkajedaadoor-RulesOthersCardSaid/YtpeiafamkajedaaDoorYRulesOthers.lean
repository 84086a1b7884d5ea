/-
  A right ensemble's trees in another order, numbered anew, some left out, the features' names changed one for one, are right: for every ensemble, every number and every choice. Conditions: none but what the statement itself says: the table of classes (scan.classes) holds what its initialiser lays (tied by the given tie).
-/
import Derived.Test.YtpeiafamkajedaaDoorCards
import Derived.Test.YtpeiafamkajedaaDoorTie
import Derived.Test.YtpeiafamkajedaaDoorPp
import Derived.Test.YtpeiafamkajedaaDoorOf
import Derived.Test.YtpeiafamkajedaaDoorOe
import Derived.WalkKit
import Derived.ProofKit
import Derived.OpenShut
import Derived.ShutString
import Derived.Below
import Derived.SizedLaws
import Derived.Laws.Cover2
import Derived.Deep.DeepHandedRow
import Derived.Lib.LaidTab
import Derived.Stop.LaidErr
namespace Go.Proofs.YtpeiafamkajedaaDoor.rulesOthers
open Go.ChangeShapes Go.WideShapes Go.ChangeAt Go.RowKit Go.Proofs.YtpeiafamkajedaaDoor.FAll Go.Proofs.YtpeiafamkajedaaDoorW.PrintWords Go.Proofs.YtpeiafamkajedaaDoorW.PrintLast Go.Proofs.YtpeiafamkajedaaDoorW.PrintMore
set_option linter.unusedVariables false
set_option linter.unusedSimpArgs false

/-- The plain law and the walk together. -/
theorem law_any (x : Ens) (ok : okE x) (tn : Int) (v : List Bool) (AF : Option Addr) (cF : Nat) (AB : Option Addr) (cB : Nat) (AT : Option Addr) (cT : Nat) (AO : Option Addr) (cO : Nat) (w : World) (ht : Tab w) (l1 : x.fs.length ≤ cF) (g1 : Kd.C Kd.string w AF x.fs.length x.fs) (l3 : x.bs.length ≤ cB) (g3 : Kd.C (Kd.int .i64) w AB x.bs.length x.bs) (l4 : x.ts.length ≤ cT) (g4 : Kd.C k37 w AT x.ts.length x.ts) (lv : v.length ≤ cO) (gv : Kd.C Kd.bool w AO v.length v) :
    Calls Tryd.prog 3 #[.agg #[.string x.nm, .slice AF x.fs.length cF, .int .i64 x.outs, .slice AB x.bs.length cB, .slice AT x.ts.length cT], .int .i64 tn, .slice AO v.length cO] w fun e w' => e = .returned (.bool true) ∧ Below w.heap.size w w' := by
  obtain ⟨o1, o2, o3, o4, o5⟩ := ok
  have hts : Small x.ts := by
    intro y hy
    obtain ⟨_, hn, hn2⟩ := o5.2 y hy
    refine ⟨by omega, fun z hz => ?_⟩
    obtain ⟨_, _, _, _, h4, _⟩ := hn2 z hz
    have := h4.1
    omega
  have hto : TreesOk x.ts := by
    intro y hy
    obtain ⟨_, hn, hn2⟩ := o5.2 y hy
    refine ⟨by omega, fun z hz => ?_⟩
    obtain ⟨_, _, _, h3, h4, _⟩ := hn2 z hz
    have := h4.1
    exact ⟨h3, by omega⟩
  have h5 := o5.1
  have h2 := o2.1
  have h4 := o4.1
  have szc : CopySizes x.fs x.bs x.ts := ⟨fun y hy => by
    obtain ⟨_, hn, hn2⟩ := o5.2 y hy
    refine ⟨by omega, fun z hz => ?_⟩
    obtain ⟨_, _, _, _, h4, _⟩ := hn2 z hz
    have := h4.1
    omega, by omega, by omega, by omega⟩
  have hsh : ∀ ts : List S37, Small ts → ∀ y ∈ ts, ∃ k, 1 ≤ y.f1.length → trees_Shape.f k y.f0 y.f1 = some ((shapeV y).1, (shapeV y).2) := fun ts hts y hy => by
    obtain ⟨⟨k, hk⟩, _⟩ := shapeV_spec y (hts y hy).1 (hts y hy).2
    exact ⟨k, fun _ => hk⟩
  have hsz : ∀ s ∈ x.fs, s.size ≤ maxLen := fun s hs => by have := o2.2 s hs; unfold maxLen; omega
  obtain ⟨⟨r1, r2, r3⟩, hr⟩ : ∃ r, checkV shapeV x.nm x.fs x.outs x.bs x.ts = r := ⟨_, rfl⟩
  by_cases hz : r1 = 0
  · obtain ⟨rfl, rfl⟩ := check_zero shapeV x.nm x.fs x.outs x.bs x.ts hr hz
    subst hz
    have good := check_good _ _ _ _ _ _ hr
    obtain ⟨f, hf⟩ := canons_exist hts hr
    obtain ⟨kc, hcp⟩ := copy_total x.nm x.fs x.outs x.bs x.ts hto (by omega) (by omega) (by omega)
    have hfl := good.fsl
    obtain ⟨kn, hnm⟩ := names_total x.fs.length (by omega)
    obtain ⟨r, hrr⟩ : ∃ r : Nat, r = ((tn % 18446744073709551616) % (x.ts.length : Int)).toNat := ⟨_, rfl⟩
    have hrl : x.ts.length = 0 ∨ r < x.ts.length := by
      by_cases h0 : x.ts.length = 0
      · exact .inl h0
      · refine .inr ?_
        have a1 : 0 ≤ (tn % 18446744073709551616) % (x.ts.length : Int) := Int.emod_nonneg _ (by omega)
        have a2 : (tn % 18446744073709551616) % (x.ts.length : Int) < (x.ts.length : Int) := Int.emod_lt_of_pos _ (by omega)
        rw [hrr]
        omega
    refine others_right x.nm AF cF x.fs x.outs AB cB x.bs AT cT x.ts tn AO cO v w f ⟨g1⟩ ⟨hsz⟩ ⟨g3⟩ ⟨g4⟩ ⟨ht⟩ ⟨hsh x.ts hts⟩ ⟨hr⟩ ⟨l1, l3, l4⟩ ⟨gv⟩ ⟨szc⟩ ⟨hf⟩ ⟨hsh _ (small_map hts hf)⟩ ⟨model_ok hts hr hf⟩ kc ⟨hcp⟩ kn (namesL x.fs.length) ⟨hnm⟩ ⟨fun s hs => ?_⟩ ⟨good.few⟩ r ⟨hrr⟩ ⟨hsh _ (fun y hy => hts y (pick_mem hrl y hy))⟩ ⟨pick_ok hr hrl⟩
    unfold namesL at hs
    obtain ⟨i, _, rfl⟩ := List.mem_map.1 hs
    rw [name_size]
    unfold maxLen
    omega
  · exact others_wrong x.nm AF cF x.fs x.outs AB cB x.bs AT cT x.ts tn AO cO v w ⟨g1⟩ ⟨hsz⟩ ⟨g3⟩ ⟨g4⟩ ⟨ht⟩ ⟨hsh x.ts hts⟩ r1 r2 r3 ⟨hr⟩ hz

theorem own : ownKnob Tryd.prog.godebug = none := by kernel_rfl
theorem laidOut : laidOutB Tryd.prog = true := by kernel_rfl
theorem gTType : (Tryd.prog.globals[0]?).map (·.type) = some 109 := by kernel_rfl
theorem cellsArr : Tryd.prog.cellsOf 109 = 128 := by kernel_rfl
theorem cellsEl : Tryd.prog.cellsOf 92 = 1 := by kernel_rfl
theorem table {W : World} (h : laidMetH Tryd.prog Rows.rulesOthersRow.laid W) : Tab W := by
  have h0 : laidMet Tryd.prog [("thicket/scan.classes", Rows.laid_thicket_scan_classes)] W := h
  have e : (Rows.laid_thicket_scan_classes : DataW Unit) = Lib.tabData .u8 classTab := by kernel_rfl
  rw [e] at h0
  exact Lib.tabIs_of_head (rest := []) gTab gTType Tryd.underlying109 Tryd.underlying92 cellsEl cellsArr h0

set_option maxRecDepth 100000 in
theorem contract (H : Type) (enc : TypeId × Value → H) (W : World) (base : Nat) (args : Array Value) (ds gs : List (DataW H)) (before : List MemPlace)
    (hval : ∀ (j : Nat) t v, Tryd.f3.params[j]? = some t → args[j]? = some v → Value.okWide Tryd.prog W .any base t v)
    (hW : DataW.Whole enc Tryd.prog Tryd.f3.params.toList Rows.rulesOthersSpec.vars false W args.toList ds gs before)
    (hsz : (DataW.weightsEach Tryd.prog (Tryd.f3.params.toList ++ Rows.rulesOthersSpec.plain.varTypes Tryd.prog) (ds ++ gs)).all (· ≤ reachBytes) = true) (hL : laidMetH Tryd.prog Rows.rulesOthersRow.laid W) :
    Calls Tryd.prog 3 args W fun e W' => ∃ v, e = .returned v ∧ Rows.rulesOthersSpec.post enc Tryd.prog Tryd.f3 false true false false W args v W' := by
  have hW' := hW
  obtain ⟨p, q, hA0, hV, rfl, hfz, hnd⟩ := hW
  have hA : DataW.TrodAll enc Tryd.prog W 0 (fun _ => true) true Tryd.f3.params.toList args.toList ds p := hA0
  rw [Tryd.params3] at hA hval hsz
  obtain ⟨v0, vs0, d0, ds0, p0, q0, hargs, rfl, rfl, h0, r0⟩ := trodAll_cons hA
  obtain ⟨v1, vs1, d1, ds1, p1, q1, rfl, rfl, rfl, h1, r1⟩ := trodAll_cons r0
  obtain ⟨v2, vs2, d2, ds2, p2, q2, rfl, rfl, rfl, h2, r2⟩ := trodAll_cons r1
  obtain ⟨rfl, rfl, rfl⟩ := trodAll_nil r2
  obtain rfl : args = #[v0, v1, v2] := by cases args; simp_all
  obtain ⟨rfl, rfl⟩ := trodVars_none hV
  have lt0 : ∀ x ∈ p0, x.block < W.heap.size := by obtain ⟨m, hm⟩ := h0; exact DataW.trod_lt m _ _ _ hm
  obtain ⟨x0, K0, O0⟩ := (by obtain ⟨m, hm⟩ := h0; exact oE.opn m _ _ hm (fun n hn => by simpa using List.all_eq_true.1 hsz n (DataW.weights_mem_each (j := 0) rfl rfl n hn)) : ∃ x : Ens, kE.K W x v0.cells.toList ∧ okE x)
  obtain ⟨AF0, cF0, AB0, cB0, AT0, cT0, e0, l1_0, g1_0, l3_0, g3_0, l4_0, g4_0⟩ := kE_open K0
  obtain rfl := vo_struct Tryd.underlying26 (hval 0 26 v0 rfl rfl) e0
  have lt1 : ∀ x ∈ p1, x.block < W.heap.size := by obtain ⟨m, hm⟩ := h1; exact DataW.trod_lt m _ _ _ hm
  obtain ⟨x1, K1, O1⟩ := (by obtain ⟨m, hm⟩ := h1; exact oInt.opn m _ _ hm (fun n hn => by simpa using List.all_eq_true.1 hsz n (DataW.weights_mem_each (j := 1) rfl rfl n hn)) : ∃ x : Int, (Kd.int .i64).K W x v1.cells.toList ∧ (Lit.int .i64 x).wf = true)
  obtain rfl := vo_int Tryd.underlying3 (hval 1 3 v1 rfl rfl) K1
  have lt2 : ∀ x ∈ p2, x.block < W.heap.size := by obtain ⟨m, hm⟩ := h2; exact DataW.trod_lt m _ _ _ hm
  obtain ⟨x2, K2, O2⟩ := (by obtain ⟨m, hm⟩ := h2; exact oBools.opn m _ _ hm (fun n hn => by simpa using List.all_eq_true.1 hsz n (DataW.weights_mem_each (j := 2) rfl rfl n hn)) : ∃ x : List Bool, (Kd.slice 4 Kd.bool).K W x v2.cells.toList ∧ okBools x)
  obtain ⟨A2, c2, e2, l2, g2⟩ := K2
  obtain rfl := vo_slice Tryd.underlying27 (hval 2 27 v2 rfl rfl) e2
  refine (law_any x0 O0 x1 x2 AF0 cF0 AB0 cB0 AT0 cT0 A2 c2 W (table hL) l1_0 g1_0 l3_0 g3_0 l4_0 g4_0 l2 g2).mono ?_
  rintro e W' ⟨rfl, bel⟩
  exact ⟨_, rfl, _, _, _, [], _, [], hW', trodAll_mk1 (shut_bool Tryd.underlying4 _), (trodAll_cons_mk (Below.trod laidOut (by kernel_rfl) (of_decide_eq_true (by kernel_rfl)) h0 bel lt0) (trodAll_cons_mk (Below.trod laidOut (by kernel_rfl) (of_decide_eq_true (by kernel_rfl)) h1 bel lt1) (trodAll_cons_mk (Below.trod laidOut (by kernel_rfl) (of_decide_eq_true (by kernel_rfl)) h2 bel lt2) trodAll_mk0))), rfl, bel.frame _, fun h => by cases h⟩

/-- A world for the witness: the table holds what its initialiser lays. -/
def lay (cs : Array Value) : Obj → Obj
  | .cells _ t frozen => .cells cs t frozen
  | o => o
noncomputable def laidWorld (os : Os) : World :=
  { World.holding Tryd.prog os ⟨#[], #[], []⟩ with heap := ((World.holding Tryd.prog os ⟨#[], #[], []⟩).heap.modify 0 (lay #[.int .u8 0, .int .u8 0, .int .u8 0, .int .u8 0, .int .u8 0, .int .u8 0, .int .u8 0, .int .u8 0, .int .u8 0, .int .u8 32, .int .u8 0, .int .u8 0, .int .u8 0, .int .u8 0, .int .u8 0, .int .u8 0, .int .u8 0, .int .u8 0, .int .u8 0, .int .u8 0, .int .u8 0, .int .u8 0, .int .u8 0, .int .u8 0, .int .u8 0, .int .u8 0, .int .u8 0, .int .u8 0, .int .u8 0, .int .u8 0, .int .u8 0, .int .u8 0, .int .u8 32, .int .u8 0, .int .u8 0, .int .u8 0, .int .u8 0, .int .u8 0, .int .u8 0, .int .u8 0, .int .u8 16, .int .u8 16, .int .u8 0, .int .u8 4, .int .u8 16, .int .u8 4, .int .u8 8, .int .u8 0, .int .u8 0, .int .u8 0, .int .u8 0, .int .u8 0, .int .u8 0, .int .u8 0, .int .u8 0, .int .u8 0, .int .u8 0, .int .u8 0, .int .u8 16, .int .u8 16, .int .u8 16, .int .u8 16, .int .u8 16, .int .u8 0, .int .u8 0, .int .u8 0, .int .u8 0, .int .u8 0, .int .u8 0, .int .u8 0, .int .u8 0, .int .u8 0, .int .u8 0, .int .u8 0, .int .u8 0, .int .u8 0, .int .u8 0, .int .u8 0, .int .u8 0, .int .u8 0, .int .u8 0, .int .u8 0, .int .u8 0, .int .u8 0, .int .u8 0, .int .u8 0, .int .u8 0, .int .u8 0, .int .u8 0, .int .u8 0, .int .u8 0, .int .u8 16, .int .u8 0, .int .u8 16, .int .u8 0, .int .u8 1, .int .u8 0, .int .u8 0, .int .u8 0, .int .u8 0, .int .u8 0, .int .u8 0, .int .u8 0, .int .u8 0, .int .u8 0, .int .u8 0, .int .u8 0, .int .u8 0, .int .u8 0, .int .u8 0, .int .u8 0, .int .u8 0, .int .u8 0, .int .u8 0, .int .u8 0, .int .u8 0, .int .u8 0, .int .u8 0, .int .u8 0, .int .u8 0, .int .u8 0, .int .u8 0, .int .u8 0, .int .u8 16, .int .u8 16, .int .u8 16, .int .u8 0, .int .u8 0])) }
theorem laid_met (os : Os) : laidMet Tryd.prog Rows.rulesOthersRow.laid ((laidWorld os).forCall (fun _ _ => 0) ⟨#[], #[Value.agg #[.string ByteArray.empty, .slice none 0 0, .int .i64 0, .slice none 0 0, .slice none 0 0], .int .i64 0, .slice none 0 0], []⟩).memory :=
  laidMet_of_run' 200 (by kernel_rfl) (by kernel_rfl)
theorem reads (os : Os) {H : Type} (enc : TypeId × Value → H) : ∃ places, DataW.whole enc Tryd.prog ((laidWorld os).forCall (fun _ _ => 0) ⟨#[], #[Value.agg #[.string ByteArray.empty, .slice none 0 0, .int .i64 0, .slice none 0 0, .slice none 0 0], .int .i64 0, .slice none 0 0], []⟩).memory Tryd.f3.params.toList Rows.rulesOthersSpec.vars false #[Value.agg #[.string ByteArray.empty, .slice none 0 0, .int .i64 0, .slice none 0 0, .slice none 0 0], .int .i64 0, .slice none 0 0].toList 200 = some ([.agg [.lit (.string []), .nil, .lit (.int .i64 0), .nil, .nil], .lit (.int .i64 0), .nil], [], places) :=
  ⟨[], by kernel_rfl⟩

set_option maxRecDepth 100000 in
theorem lifted (os : Os) (started : os.Started) (H : Type) (enc : TypeId × Value → H) (F : Stop.Interp) :
    ReturnsInHanded {} Tryd.checked os 3 .any ((OpenSpec.ofChange Rows.rulesOthersSpec).preRow enc Tryd.prog Tryd.f3 Rows.rulesOthersRow.domain false Rows.rulesOthersRow.laid) (((OpenSpec.ofChange Rows.rulesOthersSpec).at F).post enc Tryd.prog Tryd.f3 false true false false) := by
  obtain ⟨places, hx⟩ := reads os enc
  refine returnsInHanded_of_row (C := Tryd.checked) (s := OpenSpec.ofChange Rows.rulesOthersSpec) own started (by kernel_rfl) Tryd.func3
    (witness_row_at (enc := enc) (C := Tryd.checked) false (laidWorld os) #[Value.agg #[.string ByteArray.empty, .slice none 0 0, .int .i64 0, .slice none 0 0, .slice none 0 0], .int .i64 0, .slice none 0 0] rfl (by kernel_rfl) (by kernel_rfl) (by kernel_rfl)
      (OpenSpec.preRow_of_cond 200 hx (by kernel_rfl) (fun k hk => by cases hk) (by kernel_rfl) (laid_met os))) ?_
  intro W base args ds gs before hval hW _ _ hsz hL _ _
  exact contract H enc W base args ds gs before hval hW hsz hL

theorem said : Rows.RulesOthersSaid :=
  OpenClaim.holds_of_cond 3 Tryd.f3 rfl rfl rfl rfl rfl rfl rfl ⟨rfl, rfl, rfl, rfl, rfl⟩ rfl rfl rfl rfl rfl (by kernel_rfl) Tryd.func3 (by kernel_rfl)
    (of_decide_eq_true (by kernel_rfl)) (by unfold Func.isWrapper; first | (rw [if_pos (by decide +kernel)]; kernel_rfl) | (rw [if_neg (by decide +kernel)]; exact ⟨rfl, rfl⟩))
    (fun os started H enc _ F => by rw [OpenClaim.pre_eq_preRow]; exact lifted os started H enc F)

/-- No parameter wants a stand-in; the program's own looks are off: what the card asks. -/
theorem plain (f : FuncId) (fn : Func) (hf : Tryd.pinned.checked.prog.funcNamed "thicket/thicketlaw08.RulesOthers" = some f) (hfn : Tryd.pinned.checked.prog.funcs[f]? = some fn) :
    false = Tryd.pinned.checked.prog.looks [] ∧ ∀ (j : Nat) t, fn.params[j]? = some t → Tryd.pinned.checked.prog.wantsStandIn t = false := by
  obtain rfl : f = 3 := Option.some.inj ((show Tryd.prog.funcNamed "thicket/thicketlaw08.RulesOthers" = some 3 by kernel_rfl).symm.trans hf) |>.symm
  obtain rfl : fn = Tryd.f3 := (Option.some.inj (Tryd.func3.symm.trans hfn)).symm
  refine ⟨by kernel_rfl, fun j t ht => ?_⟩
  rw [Tryd.params3] at ht
  have hm : t = 26 ∨ t = 3 ∨ t = 27 := by simpa using Array.mem_of_getElem? ht
  rcases hm with rfl | rfl | rfl
  · exact (show Tryd.prog.wantsStandIn 26 = false by kernel_rfl)
  · exact (show Tryd.prog.wantsStandIn 3 = false by kernel_rfl)
  · exact (show Tryd.prog.wantsStandIn 27 = false by kernel_rfl)

theorem card : Rows.RulesOthersCardSaid :=
  Claim7.holds_tied_plain_at .later [] _ _ _ _ said (fun _ h => by cases h) (by kernel_rfl) (fun _ h => by cases h) rulesOthers_row_tie rfl ⟨rfl, rfl⟩ (by kernel_rfl) rfl plain (by kernel_rfl)
end Go.Proofs.YtpeiafamkajedaaDoor.rulesOthers
