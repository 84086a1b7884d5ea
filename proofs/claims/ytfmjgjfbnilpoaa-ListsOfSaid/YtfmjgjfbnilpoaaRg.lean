/-
 A range over a function whose iterator keeps a stack of its own in memory: the iterator turns blocks of one type alone, the body leaves those as they lie. No round leaves the loop.
-/
import Derived.Test.YtfmjgjfbnilpoaaWz
import Derived.RangeFuncNested
import Derived.RangeFuncBound
import Derived.RangeFuncCalls
import Derived.RangeFuncLeaves
import Derived.RangeFuncBox
namespace Go.Proofs.Ytfmjgjfbnilpoaa.FAll
open Go.RowKit
set_option linter.unusedVariables false
/-- An iterator's steps between two rounds: what lay below B lies as it lay; of the rest blocks of type st alone may turn. -/
structure StepT (st : TypeId) (B : Nat) (W W' : World) : Prop where
 below : Below B W W'
 size : W.heap.size ≤ W'.heap.size
 keep : ∀ k, k < W.heap.size → (∀ cells, W.heap[k]? ≠ some (.cells cells st (0, 0))) → W'.heap[k]? = W.heap[k]?
/-- The body's word: blocks of such types lie as they lay. -/
structure KeepS (st : TypeId → Prop) (W W' : World) : Prop where
 size : W.heap.size ≤ W'.heap.size
 same : ∀ (k : Nat) (cells : Array Value) (t : TypeId), st t → W.heap[k]? = some (.cells cells t (0, 0)) → W'.heap[k]? = some (.cells cells t (0, 0))
theorem KeepS.refl (st : TypeId → Prop) (W : World) : KeepS st W W := ⟨Nat.le_refl _, fun _ _ _ _ h => h⟩
theorem KeepS.trans {st : TypeId → Prop} {A B C : World} (h : KeepS st A B) (k : KeepS st B C) : KeepS st A C := ⟨Nat.le_trans h.size k.size, fun i c t ht hi => k.same i c t ht (h.same i c t ht hi)⟩
theorem KeepS.putObj {st : TypeId → Prop} {W : World} {l : Nat} {o : Obj} (o' : Obj) (hl : W.heap[l]? = some o) (ho : o.isCells = false) : KeepS st W (W.putObj l o') :=
 ⟨by simp, fun k c t ht hk => (World.putObj_heap_other (fun e => by subst e; rw [hk] at hl; cases hl; cases ho)).trans hk⟩
theorem KeepS.of_grownBy {st : TypeId → Prop} {W W' : World} {row : Option Nat} (hg : W.grownBy W' row) (hrow : ∀ (k : Nat) (cells : Array Value) (t : TypeId), row = some k → st t → W.heap[k]? ≠ some (.cells cells t (0, 0))) : KeepS st W W' :=
 ⟨hg.size, fun k c t ht hk => (hg.block k (Array.getElem?_eq_some_iff.1 hk).1 (fun e => hrow k c t e.symm ht hk)).trans hk⟩
theorem KeepS.of_below {st : TypeId → Prop} {W W' : World} (h : Below W.heap.size W W') : KeepS st W W' := ⟨h.size, fun k c t _ hk => (h.block k (Array.getElem?_eq_some_iff.1 hk).1).trans hk⟩
theorem KeepS.setCell {st : TypeId → Prop} {W : World} {b i : Nat} {v : Value} {t : TypeId} {cs : Array Value} (hb : W.heap[b]? = some (.cells cs t (0, 0))) (ht : ¬ st t) : KeepS st W (W.setCell ⟨b, i, none⟩ v) :=
 ⟨by show W.heap.size ≤ (W.heap.modify _ _).size; rw [Array.size_modify]; exact Nat.le_refl _, fun k c t' ht' hk => (Below.heap_setCell W ⟨b, i, none⟩ v k (fun e => by
  have e' : k = b := e
  subst e'
  rw [hb] at hk
  injection hk with hk
  injection hk with _ hk
  subst hk
  exact ht ht')).trans hk⟩
theorem StepT.of_below {st : TypeId} {B : Nat} {W W' : World} (h : Below W.heap.size W W') (hB : B ≤ W.heap.size) : StepT st B W W' := ⟨h.mono hB, h.size, fun k hk _ => h.block k hk⟩
theorem StepT.trans {st : TypeId} {B : Nat} {X Y Z : World} (h : StepT st B X Y) (k : StepT st B Y Z) : StepT st B X Z :=
 ⟨h.below.trans k.below, Nat.le_trans h.size k.size, fun i hi hn => by
  have h1 := h.keep i hi hn
  exact (k.keep i (Nat.lt_of_lt_of_le hi h.size) (fun c => by rw [h1]; exact hn c)).trans h1⟩
theorem StepT.of_grown {st : TypeId} {B : Nat} {W W' : World} {row : Option Nat} (hg : W.grownBy W' row) (hB : B ≤ W.heap.size) (hrow : ∀ k, row = some k → B ≤ k ∧ ∃ cells, W.heap[k]? = some (.cells cells st (0, 0))) : StepT st B W W' :=
 ⟨(Below.refl B W).grown hg hB (fun k e => (hrow k e).1), hg.size, fun k hk hn => hg.block k hk (fun e => by
  obtain ⟨_, c, hc⟩ := hrow k e.symm
  exact hn c hc)⟩
theorem StepT.refl (st : TypeId) (B : Nat) (W : World) : StepT st B W W := ⟨Below.refl _ _, Nat.le_refl _, fun _ _ _ => rfl⟩
def postT {α : Type} (st : TypeId → Prop) (n0 B : Nat) (I : List α → World → Prop) (xs : List α) (W : World) : Exit → Act → World → Prop
 | .normal, _, W' => KeepsFrom B W W' ∧ Below n0 W W' ∧ KeepS st W W' ∧ I xs W'
 | .ret, _, _ => False
 | .exit _, _, _ => False
 | .goto _, _, _ => False
 | .panic _, _, _ => False
 | .outgrown, _, _ => False
def SeqT {α : Type} (F : Fence) (n : Nat) (P : Program) (g : Nat) (lb : Array Value) (encs : α → Array Value) (st : TypeId) (sp : TypeId → Prop) (n0 : Nat) (xs : List α) (w : World) : Prop :=
 ∀ (l : Nat) (J : List α → World → Prop) (W : World), Below w.heap.size w W → (∀ s A B, J s A → StepT st W.heap.size A B → J s B) →
  (∀ pre x rest W1, pre ++ x :: rest = xs → J pre W1 → YieldAt F (n - 1) P l (encs x) W1 fun e W' => e = .returned (.bool true) ∧ J (pre ++ [x]) W' ∧ Below n0 W1 W' ∧ KeepS sp W1 W') →
  J [] W → CallsIn F n P g (#[.func (.yield l) #[] #[]] ++ lb) W fun e W' => (∃ v, e = .returned v) ∧ J xs W'
section
variable {F : Fence} {n : Nat} {P : Program}
theorem putObj_below {n0 : Nat} (W : World) (l : Nat) (o' : Obj) (h : n0 ≤ l) (hl : l < W.heap.size) : Below n0 W (W.putObj l o') :=
 (Below.refl n0 W).grown (grownBy_putObj' W l o') (by omega) (fun k e => by cases e; exact h)
theorem range_T {α : Type} {g : Operand} {ps : Array Tmp} {assign body : Code} {Q : Exit → Act → World → Prop} {a : Act} {w : World}
  (hro : F.round = none) (h1 : 1 ≤ n) {gf : Nat} {lb : Array Value} (hg : a.eval g = .func (.func gf) #[] lb) (hFg : F.fn gf) (eg : ∀ args w, (callFunc gf args).run P w = .ok (.enter gf args) w)
  {encs : α → Array Value} {st : TypeId} {sp : TypeId → Prop} {n0 : Nat} {xs : List α} {w0 : World} (hseq : SeqT F (n - 1) P gf lb encs st sp n0 xs w0) (hb0 : Below w0.heap.size w0 w) (hn0 : n0 ≤ w.heap.size) (hps : ∀ x, (encs x).size = ps.size)
  (I : List α → World → Prop) (hI : OwnFrom w.heap.size I) (hI2 : ∀ s A B, I s A → StepT st w.heap.size A B → I s B) (h0 : I [] w) (a₁ : α → Act)
  (hassign : ∀ (l : Nat) (x : α) (W : World) (K : Act → World → Prop), K (a₁ x) W →
   assign.wpIn (F.inRound l) (n - 1 - 1) P (Exit.then K (fun _ _ _ => False)) { tmps := (ps.zip (encs x)).foldl (fun t (p, v) => t.setIfInBounds p v) a.tmps, defers := [] } W)
  (hbody : ∀ (l : Nat) (pre : List α) (x : α) (rest : List α) (W : World), pre ++ x :: rest = xs → I pre W → w.heap.size + 1 < W.heap.size → body.wpIn (F.inRound l) (n - 1 - 1) P (postT sp n0 w.heap.size I (pre ++ [x]) W) (a₁ x) W)
  (hdone : ∀ (D : Nat) (W : World), w.heap.size ≤ D → I xs W → W.heap[D]? = some (.deferred (some [])) → Q .normal { a with defers := { target := .collected D, args := #[] } :: a.defers } W) :
  (Code.rangeFunc g ps assign body).wpIn F n P Q a w := by
 refine wpIn_rangeFunc (fun fn hfn => ?_)
 rw [hro]
 obtain ⟨rec, hrec⟩ : ∃ rec : LoopState → Option Code → Loop, rec = fun s pe => { state := s, pending := pe, fn, tmps := a.tmps, params := ps, assign, body, defers := w.heap.size } := ⟨_, rfl⟩
 obtain ⟨L, hLs⟩ : ∃ L, L = w.heap.size + 1 := ⟨_, rfl⟩
 obtain ⟨W1, hW1⟩ : ∃ W1, (w.alloc (.deferred (some []))).alloc (.loop (rec .ready none)) = W1 := ⟨_, rfl⟩
 have hL1 : W1.heap[L]? = some (.loop (rec .ready none)) := by
  have h := World.alloc_heap_new (w.alloc (.deferred (some []))) (.loop (rec .ready none))
  rw [World.size_alloc] at h
  rw [← hW1, hLs]
  exact h
 have hD1 : W1.heap[w.heap.size]? = some (.deferred (some [])) := by
  rw [← hW1]
  exact (Below.heap_alloc _ _ _ (by simp)).trans (World.alloc_heap_new w _)
 have hb1 : Below w.heap.size w W1 := by
  rw [← hW1]
  exact ((Below.refl _ w).alloc (Nat.le_refl _) _).alloc (by simp) _
 have hs1 : w.heap.size ≤ W1.heap.size := hb1.size
 refine ⟨L, [{ target := .collected w.heap.size, args := #[] }], W1, { target := .fn (.func gf) lb, args := #[.func (.yield L) #[] #[]] }, W1, gf, #[.func (.yield L) #[] #[]] ++ lb, W1, ?_, ?_, ?_, ?_, fun _ => h1, ?_⟩
 ·rw [← hW1, hrec, hLs]; exact run_enterLoop_outer _ _ _ _ _
 ·simp only [resolve, hg]
  simp [go_sem]
 ·intro f' hf'; simp [Target.leads] at hf'; subst hf'; exact hFg
 ·simp [invoke, go_sem, eg]
 ·refine (hseq L (fun s W => I s W ∧ W.heap[L]? = some (.loop (rec .ready none)) ∧ W.heap[w.heap.size]? = some (.deferred (some []))) W1 (hb0.trans (hb1.mono hb0.size)) ?_ ?_ ⟨?_, hL1, hD1⟩).mono ?_
  ·rintro s A B ⟨h, hl, hd⟩ hst
   refine ⟨hI2 s A B h ⟨hst.below.mono hs1, hst.size, hst.keep⟩, ?_, ?_⟩
   ·exact (hst.keep L (Array.getElem?_eq_some_iff.1 hl).1 (fun c e => by rw [hl] at e; cases e)).trans hl
   ·exact (hst.keep _ (Array.getElem?_eq_some_iff.1 hd).1 (fun c e => by rw [hd] at e; cases e)).trans hd
  ·rintro pre x rest W hx ⟨hi, hl, hd⟩
   have hlt : L < W.heap.size := (Array.getElem?_eq_some_iff.1 hl).1
   have hy := run_yield (P := P) (args := encs x) hl (by rw [hrec]; exact hps x)
   rw [hrec] at hy
   refine ⟨fn, _, assign, body, hy, roundIn_of_wpIn hfn (hassign _ x W _ ⟨_, run_beginRound hl (by rw [hrec]), ?_⟩)⟩
   obtain ⟨W2, hW2⟩ : ∃ W2, W2 = W.putObj L (.loop { rec .ready none with state := .busy }) := ⟨_, rfl⟩
   rw [← hW2]
   have hz2 : W2.heap.size = W.heap.size := by rw [hW2]; exact World.putObj_size
   have hl2 : W2.heap[L]? = some (.loop { rec .ready none with state := .busy }) := by rw [hW2]; exact World.putObj_heap_same hlt
   have hd2 : W2.heap[w.heap.size]? = some (.deferred (some [])) := by rw [hW2]; exact (World.putObj_heap_other (by omega)).trans hd
   have hi2 : I pre W2 := by rw [hW2]; exact hI.putObj _ hi (by omega) hl rfl
   have hk2 : KeepS sp W W2 := by rw [hW2]; exact KeepS.putObj _ hl rfl
   have hb2 : Below n0 W W2 := by rw [hW2]; exact putObj_below W L _ (by omega) hlt
   refine wpIn_mono (hbody L pre x rest W2 hx hi2 (by omega)) ?_
   rintro e a3 W3 hp
   cases e with
   | normal =>
    obtain ⟨hk3, hb3, hs3, hi3⟩ := hp
    have hl3 := hk3.same L _ (by omega) hl2 rfl
    have hd3 := hk3.same w.heap.size _ (Nat.le_refl _) hd2 rfl
    have hlt3 : L < W3.heap.size := (Array.getElem?_eq_some_iff.1 hl3).1
    have hr := run_endRound (P := P) none hl3
    refine ⟨_, _, hr, rfl, ⟨hI.putObj _ hi3 (by omega) hl3 rfl, ?_, (World.putObj_heap_other (by omega)).trans hd3⟩, hb2.trans (hb3.trans (putObj_below W3 L _ (by omega) hlt3)), hk2.trans (hs3.trans (KeepS.putObj _ hl3 rfl))⟩
    have h := World.putObj_heap_same (o := .loop (rec .ready none)) hlt3
    rw [hrec] at h ⊢
    exact h
   | ret => exact hp.elim
   | exit id => exact hp.elim
   | goto t => exact hp.elim
   | panic ch => exact hp.elim
   | outgrown => exact hp.elim
  ·rw [← hW1]; exact hI.alloc _ (hI.alloc _ h0)
  ·rintro e W2 ⟨⟨v, rfl⟩, hi, hl, hd⟩
   have hend := run_endLoop (P := P) hl (by rw [hrec]; simp)
   refine ⟨none, W2.putObj L (.loop { rec .ready none with state := .exhausted }), by rw [hend, hrec], hdone _ _ (Nat.le_refl _) (hI.putObj _ hi (by omega) hl rfl) ((World.putObj_heap_other (by omega)).trans hd)⟩
end
end Go.Proofs.Ytfmjgjfbnilpoaa.FAll
