/-
  The limits are met by right ensembles, and one more breaks the rule. Conditions: none but what the statement itself says: the table of classes (scan.classes) holds what its initialiser lays (tied by the given tie).
-/
import Derived.Test.YtglpjgbgomppjaaDoorCards
import Derived.Test.YtglpjgbgomppjaaDoorTie
import Derived.Test.YtglpjgbgomppjaaDoorGn
import Derived.Test.YtglpjgbgomppjaaDoorOe
import Derived.WalkKit
import Derived.ProofKit
import Derived.OpenShut
import Derived.ShutString
import Derived.Below
import Derived.SizedLaws
import Derived.Laws.Cover2
import Derived.Deep.DeepHandedRow
import Derived.Lib.LaidTab
import Derived.Stop.LaidErr
namespace Go.Proofs.YtglpjgbgomppjaaDoor.rulesLimits
open Go.ChangeShapes Go.WideShapes Go.ChangeAt Go.RowKit Go.Proofs.YtglpjgbgomppjaaDoor.FAll Go.Proofs.YtglpjgbgomppjaaDoorW.PrintWords Go.Proofs.YtglpjgbgomppjaaDoorW.PrintLast Go.Proofs.YtglpjgbgomppjaaDoorW.PrintMore
set_option linter.unusedVariables false
set_option linter.unusedSimpArgs false

theorem combs_cats (m : Nat) : ∀ x ∈ combL m, x.f4 = [] := by
  have h : ∀ m : Nat, ∀ x ∈ combN m, x.f4 = [] := by
    intro m
    induction m with
    | zero => intro x hx; cases hx
    | succ m ih =>
      intro x hx
      unfold combN at hx
      rcases List.mem_append.1 hx with hx | hx
      · exact ih x hx
      · rcases List.mem_cons.1 hx with rfl | hx
        · rfl
        · obtain rfl : x = leafN := by simpa using hx
          rfl
  intro x hx
  unfold combL at hx
  rcases List.mem_append.1 hx with hx | hx
  · exact h m x hx
  · obtain rfl : x = leafN := by simpa using hx
    rfl
theorem shapes (ts : List S33) (h1 : ∀ y ∈ ts, y.f1.length ≤ 100000) (h2 : ∀ y ∈ ts, ∀ x ∈ y.f1, x.f4 = []) : ∀ y ∈ ts, ∃ k, 1 ≤ y.f1.length → trees_Shape.f k y.f0 y.f1 = some ((shapeV y).1, (shapeV y).2) := fun y hy => by
  obtain ⟨⟨k, hk⟩, _⟩ := shapeV_spec y (by have := h1 y hy; omega) (fun x hx => by rw [h2 y hy x hx]; exact Nat.zero_le _)
  exact ⟨k, fun _ => hk⟩
theorem shapes_one (t0 : Int) (ns : List S40) (h1 : ns.length ≤ 100000) (h2 : ∀ x ∈ ns, x.f4 = []) : ∀ y ∈ [(⟨t0, ns⟩ : S33)], ∃ k, 1 ≤ y.f1.length → trees_Shape.f k y.f0 y.f1 = some ((shapeV y).1, (shapeV y).2) :=
  shapes _ (fun y hy => by obtain rfl : y = ⟨t0, ns⟩ := by simpa using hy
                           exact h1) (fun y hy => by obtain rfl : y = ⟨t0, ns⟩ := by simpa using hy
                                                     exact h2)
theorem leaf_only (ts : List S33) (h : ∀ y ∈ ts, y = ⟨0, [leaf5]⟩) : ∀ y ∈ ts, ∃ k, 1 ≤ y.f1.length → trees_Shape.f k y.f0 y.f1 = some ((shapeV y).1, (shapeV y).2) :=
  shapes _ (fun y hy => by rw [h y hy]; decide) (fun y hy x hx => by
    rw [h y hy] at hx
    obtain rfl : x = leaf5 := by simpa using hx
    rfl)
/-- The plain laws and the walk together. -/
theorem law_any (w : World) (ht : Tab w) : Calls Tryd.prog 3 #[] w fun e w' => e = .returned (.bool true) ∧ Below w.heap.size w w' := by
  obtain ⟨kn1, h1⟩ := names_total 65536 (by decide)
  obtain ⟨kn2, h2⟩ := names_total 65537 (by decide)
  obtain ⟨kc1, h3⟩ := comb_total 4095 (by decide)
  obtain ⟨kc2, h4⟩ := comb_total 4096 (by decide)
  have hz : ∀ n, ∀ s ∈ namesL n, s.size ≤ maxLen := fun n s hs => by
    unfold namesL at hs
    obtain ⟨i, _, rfl⟩ := List.mem_map.1 hs
    rw [name_size]
    decide
  have hrep : ∀ n, ∀ y ∈ List.replicate n (⟨0, [leaf5]⟩ : S33), y = ⟨0, [leaf5]⟩ := fun n y hy => (List.mem_replicate.1 hy).2
  have l1 := combL_length 4095
  have l2 := combL_length 4096
  have lz : ∀ x ∈ combL 4095 ++ [(⟨1, 0, 0, 0, [], 0, 0, 0⟩ : S40)], x.f4 = [] := fun x hx => by
    rcases List.mem_append.1 hx with hx | hx
    · exact combs_cats _ x hx
    · obtain rfl : x = ⟨1, 0, 0, 0, [], 0, 0, 0⟩ := by simpa using hx
      rfl
  have ll : (combL 4095 ++ [(⟨1, 0, 0, 0, [], 0, 0, 0⟩ : S40)]).length = 8192 := by rw [List.length_append, l1]; rfl
  refine limits_walk w ⟨ht⟩ (namesL 65536) (namesL 65537) kn1 kn2 ⟨h1⟩ ⟨h2⟩ ⟨hz _⟩ ⟨hz _⟩ ⟨leaf_only _ (fun y hy => by simpa [smallT] using hy)⟩ ⟨limF_ok⟩ ⟨limF_no⟩ (combL 4095) (combL 4096) kc1 kc2 ⟨h3⟩ ⟨h4⟩ ⟨by omega⟩
    ⟨fun L hL => by rw [hL]; exact limO_ok⟩ ⟨fun L hL => by rw [hL]; exact limO_no⟩ ⟨limS_ok⟩ ⟨limS_no⟩ ⟨limN_ok⟩ ⟨nodes_no _ (by omega)⟩ ⟨fun M hM => by rw [hM]; exact nodes_no _ (by omega)⟩
    ⟨shapes_one 0 _ (by omega) (combs_cats _)⟩ ⟨shapes_one 0 _ (by omega) (combs_cats _)⟩ ⟨fun M hM => by rw [hM]; exact shapes_one 0 _ (by omega) lz⟩
    (fun n hn => by rw [hn]; exact limT_ok) (fun n hn => by rw [← List.replicate_succ', hn]; exact limT_no) (fun n => leaf_only _ (hrep n)) (fun n => leaf_only _ (fun y hy => ?_))
  rcases List.mem_append.1 hy with hy | hy
  · exact hrep n y hy
  · simpa using hy

theorem own : ownKnob Tryd.prog.godebug = none := by kernel_rfl
theorem laidOut : laidOutB Tryd.prog = true := by kernel_rfl
theorem gTType : (Tryd.prog.globals[0]?).map (·.type) = some 80 := by kernel_rfl
theorem cellsArr : Tryd.prog.cellsOf 80 = 128 := by kernel_rfl
theorem cellsEl : Tryd.prog.cellsOf 73 = 1 := by kernel_rfl
theorem table {W : World} (h : laidMetH Tryd.prog Rows.rulesLimitsRow.laid W) : Tab W := by
  have h0 : laidMet Tryd.prog [("thicket/scan.classes", Rows.laid_thicket_scan_classes)] W := h
  have e : (Rows.laid_thicket_scan_classes : DataW Unit) = Lib.tabData .u8 classTab := by kernel_rfl
  rw [e] at h0
  exact Lib.tabIs_of_head (rest := []) gTab gTType Tryd.underlying80 Tryd.underlying73 cellsEl cellsArr h0

set_option maxRecDepth 100000 in
theorem contract (H : Type) (enc : TypeId × Value → H) (W : World) (base : Nat) (args : Array Value) (ds gs : List (DataW H)) (before : List MemPlace)
    (hval : ∀ (j : Nat) t v, Tryd.f3.params[j]? = some t → args[j]? = some v → Value.okWide Tryd.prog W .any base t v)
    (hW : DataW.Whole enc Tryd.prog Tryd.f3.params.toList Rows.rulesLimitsSpec.vars false W args.toList ds gs before)
    (hsz : (DataW.weightsEach Tryd.prog (Tryd.f3.params.toList ++ Rows.rulesLimitsSpec.plain.varTypes Tryd.prog) (ds ++ gs)).all (· ≤ reachBytes) = true) (hL : laidMetH Tryd.prog Rows.rulesLimitsRow.laid W) :
    Calls Tryd.prog 3 args W fun e W' => ∃ v, e = .returned v ∧ Rows.rulesLimitsSpec.post enc Tryd.prog Tryd.f3 false true false false W args v W' := by
  have hW' := hW
  obtain ⟨p, q, hA0, hV, rfl, hfz, hnd⟩ := hW
  have hA : DataW.TrodAll enc Tryd.prog W 0 (fun _ => true) true Tryd.f3.params.toList args.toList ds p := hA0
  rw [Tryd.params3] at hA hval hsz
  obtain ⟨rfl, rfl, rfl⟩ := trodAll_none hA
  obtain ⟨rfl, rfl⟩ := trodVars_none hV
  refine (law_any W (table hL)).mono ?_
  rintro e W' ⟨rfl, bel⟩
  exact ⟨_, rfl, _, _, _, [], _, [], hW', trodAll_mk1 (shut_bool Tryd.underlying4 _), trodAll_mk0, rfl, bel.frame _, fun h => by cases h⟩

/-- A world for the witness: the table holds what its initialiser lays. -/
def lay (cs : Array Value) : Obj → Obj
  | .cells _ t frozen => .cells cs t frozen
  | o => o
noncomputable def laidWorld (os : Os) : World :=
  { World.holding Tryd.prog os ⟨#[], #[], []⟩ with heap := ((World.holding Tryd.prog os ⟨#[], #[], []⟩).heap.modify 0 (lay #[.int .u8 0, .int .u8 0, .int .u8 0, .int .u8 0, .int .u8 0, .int .u8 0, .int .u8 0, .int .u8 0, .int .u8 0, .int .u8 32, .int .u8 0, .int .u8 0, .int .u8 0, .int .u8 0, .int .u8 0, .int .u8 0, .int .u8 0, .int .u8 0, .int .u8 0, .int .u8 0, .int .u8 0, .int .u8 0, .int .u8 0, .int .u8 0, .int .u8 0, .int .u8 0, .int .u8 0, .int .u8 0, .int .u8 0, .int .u8 0, .int .u8 0, .int .u8 0, .int .u8 32, .int .u8 0, .int .u8 0, .int .u8 0, .int .u8 0, .int .u8 0, .int .u8 0, .int .u8 0, .int .u8 16, .int .u8 16, .int .u8 0, .int .u8 4, .int .u8 16, .int .u8 4, .int .u8 8, .int .u8 0, .int .u8 0, .int .u8 0, .int .u8 0, .int .u8 0, .int .u8 0, .int .u8 0, .int .u8 0, .int .u8 0, .int .u8 0, .int .u8 0, .int .u8 16, .int .u8 16, .int .u8 16, .int .u8 16, .int .u8 16, .int .u8 0, .int .u8 0, .int .u8 0, .int .u8 0, .int .u8 0, .int .u8 0, .int .u8 0, .int .u8 0, .int .u8 0, .int .u8 0, .int .u8 0, .int .u8 0, .int .u8 0, .int .u8 0, .int .u8 0, .int .u8 0, .int .u8 0, .int .u8 0, .int .u8 0, .int .u8 0, .int .u8 0, .int .u8 0, .int .u8 0, .int .u8 0, .int .u8 0, .int .u8 0, .int .u8 0, .int .u8 0, .int .u8 16, .int .u8 0, .int .u8 16, .int .u8 0, .int .u8 1, .int .u8 0, .int .u8 0, .int .u8 0, .int .u8 0, .int .u8 0, .int .u8 0, .int .u8 0, .int .u8 0, .int .u8 0, .int .u8 0, .int .u8 0, .int .u8 0, .int .u8 0, .int .u8 0, .int .u8 0, .int .u8 0, .int .u8 0, .int .u8 0, .int .u8 0, .int .u8 0, .int .u8 0, .int .u8 0, .int .u8 0, .int .u8 0, .int .u8 0, .int .u8 0, .int .u8 0, .int .u8 16, .int .u8 16, .int .u8 16, .int .u8 0, .int .u8 0])) }
theorem laid_met (os : Os) : laidMet Tryd.prog Rows.rulesLimitsRow.laid ((laidWorld os).forCall (fun _ _ => 0) ⟨#[], (#[] : Array Value), []⟩).memory :=
  laidMet_of_run' 200 (by kernel_rfl) (by kernel_rfl)
theorem reads (os : Os) {H : Type} (enc : TypeId × Value → H) : ∃ places, DataW.whole enc Tryd.prog ((laidWorld os).forCall (fun _ _ => 0) ⟨#[], (#[] : Array Value), []⟩).memory Tryd.f3.params.toList Rows.rulesLimitsSpec.vars false (#[] : Array Value).toList 200 = some ([], [], places) :=
  ⟨[], by kernel_rfl⟩

set_option maxRecDepth 100000 in
theorem lifted (os : Os) (started : os.Started) (H : Type) (enc : TypeId × Value → H) (F : Stop.Interp) :
    ReturnsInHanded {} Tryd.checked os 3 .any ((OpenSpec.ofChange Rows.rulesLimitsSpec).preRow enc Tryd.prog Tryd.f3 Rows.rulesLimitsRow.domain false Rows.rulesLimitsRow.laid) (((OpenSpec.ofChange Rows.rulesLimitsSpec).at F).post enc Tryd.prog Tryd.f3 false true false false) := by
  obtain ⟨places, hx⟩ := reads os enc
  refine returnsInHanded_of_row (C := Tryd.checked) (s := OpenSpec.ofChange Rows.rulesLimitsSpec) own started (by kernel_rfl) Tryd.func3
    (witness_row_at (enc := enc) (C := Tryd.checked) false (laidWorld os) (#[] : Array Value) rfl (by kernel_rfl) (by kernel_rfl) (by kernel_rfl)
      (OpenSpec.preRow_of_cond 200 hx (by kernel_rfl) (fun k hk => by cases hk) (by kernel_rfl) (laid_met os))) ?_
  intro W base args ds gs before hval hW _ _ hsz hL _ _
  exact contract H enc W base args ds gs before hval hW hsz hL

theorem said : Rows.RulesLimitsSaid :=
  OpenClaim.holds_of_cond 3 Tryd.f3 rfl rfl rfl rfl rfl rfl rfl ⟨rfl, rfl, rfl, rfl, rfl⟩ rfl rfl rfl rfl rfl (by kernel_rfl) Tryd.func3 (by kernel_rfl)
    (of_decide_eq_true (by kernel_rfl)) (by unfold Func.isWrapper; first | (rw [if_pos (by decide +kernel)]; kernel_rfl) | (rw [if_neg (by decide +kernel)]; exact ⟨rfl, rfl⟩))
    (fun os started H enc _ F => by rw [OpenClaim.pre_eq_preRow]; exact lifted os started H enc F)

/-- No parameter wants a stand-in; the program's own looks are off: what the card asks. -/
theorem plain (f : FuncId) (fn : Func) (hf : Tryd.pinned.checked.prog.funcNamed "thicket/thicketlaw08.RulesLimits" = some f) (hfn : Tryd.pinned.checked.prog.funcs[f]? = some fn) :
    false = Tryd.pinned.checked.prog.looks [] ∧ ∀ (j : Nat) t, fn.params[j]? = some t → Tryd.pinned.checked.prog.wantsStandIn t = false := by
  obtain rfl : f = 3 := Option.some.inj ((show Tryd.prog.funcNamed "thicket/thicketlaw08.RulesLimits" = some 3 by kernel_rfl).symm.trans hf) |>.symm
  obtain rfl : fn = Tryd.f3 := (Option.some.inj (Tryd.func3.symm.trans hfn)).symm
  refine ⟨by kernel_rfl, fun j t ht => ?_⟩
  rw [Tryd.params3] at ht
  exact absurd ht (by simp)

theorem card : Rows.RulesLimitsCardSaid :=
  Claim7.holds_tied_plain_at .later [] _ _ _ _ said (fun _ h => by cases h) (by kernel_rfl) (fun _ h => by cases h) rulesLimits_row_tie rfl ⟨rfl, rfl⟩ (by kernel_rfl) rfl plain (by kernel_rfl)
end Go.Proofs.YtglpjgbgomppjaaDoor.rulesLimits
