/-
  What rules.Check answers, in plain words.
-/
import Derived.Test.YtpeiafamkajedaaDoorRd
import Derived.Test.YtpeiafamkajedaaDoorRm
import Derived.Maps.Views
namespace Go.Proofs.YtpeiafamkajedaaDoor.FAll
open Go.RowKit Go.Shelf Go.Maps Go.WideMaps Go.Proofs.YtpeiafamkajedaaDoorW.PrintWords Go.Proofs.YtpeiafamkajedaaDoorW.PrintLast Go.Proofs.YtpeiafamkajedaaDoorW.PrintMore
attribute [local go_sem] fstore_walk
set_option linter.unusedVariables false
set_option linter.unusedSimpArgs false

/-- How often a name stands among the first n. -/
def cnt (fs : List ByteArray) (n : Nat) (s : ByteArray) : Int := (((fs.take n).countP fun x => decide (x = s) : Nat) : Int)
theorem cnt_zero (fs : List ByteArray) (s : ByteArray) : cnt fs 0 s = 0 := rfl
theorem cnt_succ (fs : List ByteArray) (n : Nat) (h : n < fs.length) (s : ByteArray) : cnt fs (n + 1) s = cnt fs n s + if rdOf ByteArray.empty fs (n : Int) = s then 1 else 0 := by
  unfold cnt rdOf
  rw [List.take_add_one, List.getElem?_eq_getElem h, List.countP_append]
  by_cases e : fs[n] = s
  · simp [List.getD_eq_getElem?_getD, List.getElem?_eq_getElem h, e]
  · simp [List.getD_eq_getElem?_getD, List.getElem?_eq_getElem h, e]
theorem cnt_bd (fs : List ByteArray) (n : Nat) (s : ByteArray) : 0 ≤ cnt fs n s ∧ cnt fs n s ≤ n := by
  unfold cnt
  have h1 := List.countP_le_length (p := fun x => decide (x = s)) (l := fs.take n)
  have h2 : (fs.take n).length ≤ n := List.length_take_le _ _
  omega
/-- The first feature that breaks a rule. -/
def featV (fs : List ByteArray) : Nat → Nat → Option (Int × Int)
  | 0, _ => none
  | d + 1, i => if (c2Head (rdOf ByteArray.empty fs (i : Int)) (cnt fs (i + 1) (rdOf ByteArray.empty fs (i : Int)))).2 = true then some ((c2Head (rdOf ByteArray.empty fs (i : Int)) (cnt fs (i + 1) (rdOf ByteArray.empty fs (i : Int)))).1, (i : Int)) else featV fs d (i + 1)
/-- The first tree that breaks one. -/
def treesV (sh : S37 → Int × Int) (nf : Nat) (outs : Int) (ts : List S37) : Nat → Nat → Option (Int × Int × Int)
  | 0, _ => none
  | d + 1, k => if (treeV nf outs (rd_T37 ts (k : Int)).f0 (rd_T37 ts (k : Int)).f1 (sh (rd_T37 ts (k : Int)))).1 = 0 then treesV sh nf outs ts d (k + 1) else some ((treeV nf outs (rd_T37 ts (k : Int)).f0 (rd_T37 ts (k : Int)).f1 (sh (rd_T37 ts (k : Int)))).1, (k : Int), (treeV nf outs (rd_T37 ts (k : Int)).f0 (rd_T37 ts (k : Int)).f1 (sh (rd_T37 ts (k : Int)))).2)
/-- What no sum comes to, as limbs. -/
def mostL : List Int := strip (words 4611686018427387904)
/-- The first output whose room is too great. -/
def sumsV (q : List (List Int)) : Nat → Nat → Option Int
  | 0, _ => none
  | d + 1, k => if 0 ≤ cmpL (strip (q.getD k [])) (strip mostL) then some (k : Int) else sumsV q d (k + 1)
section
variable (sh : S37 → Int × Int) (nm : ByteArray) (fs : List ByteArray) (outs : Int) (bs : List Int) (ts : List S37)
def sumsTail : Int × Int × Int := match sumsV (roomsL bs ts) bs.length 0 with
  | some k => (31, -1, k)
  | none => (0, 0, 0)
def treesTail : Int × Int × Int := match treesV sh fs.length outs ts ts.length 0 with
  | some p => p
  | none => sumsTail bs ts
def c3Tail : Int × Int × Int := if (c3Head outs bs.length ts.length).2 = true then ((c3Head outs bs.length ts.length).1, -1, -1) else treesTail sh fs outs bs ts
def featTail : Int × Int × Int := match featV fs fs.length 0 with
  | some p => (p.1, -1, p.2)
  | none => c3Tail sh fs outs bs ts
/-- What rules.Check answers, where trees.Shape answers as told. -/
def checkV : Int × Int × Int := if (c1Head nm fs.length).2 = true then ((c1Head nm fs.length).1, -1, -1) else featTail sh fs outs bs ts
end
theorem stepT_length (o : List (List Int)) (t : S37) : (stepT o t).length = o.length := by
  unfold stepT
  split
  · rw [List.length_set]
  · rfl
theorem roomsL_length (bs : List Int) (ts : List S37) : (roomsL bs ts).length = bs.length := by
  unfold roomsL
  suffices h : ∀ o : List (List Int), (ts.foldl stepT o).length = o.length by rw [h, List.length_map]
  intro o
  induction ts generalizing o with
  | nil => rfl
  | cons t l ih => rw [List.foldl_cons, ih, stepT_length]
theorem key_lit (s : ByteArray) : WideAt.IsKeyLit (.string s.data.toList) := by unfold WideAt.IsKeyLit; trivial
theorem key_ne {s t : ByteArray} (h : t ≠ s) : (Lit.string t.data.toList) ≠ .string s.data.toList := by
  intro e
  injection e with e
  exact h (by cases s; cases t; congr 1; exact Array.ext' e)
end Go.Proofs.YtpeiafamkajedaaDoor.FAll
