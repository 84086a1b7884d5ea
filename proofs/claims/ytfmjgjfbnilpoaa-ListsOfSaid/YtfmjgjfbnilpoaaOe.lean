/-
 An ensemble as an argument: what of its type can be read, and what is known of the sizes.
-/
import Derived.Test.YtfmjgjfbnilpoaaFAllx0
import Derived.Test.YtfmjgjfbnilpoaaOp
namespace Go.Proofs.Ytfmjgjfbnilpoaa.FAll
open Go.RowKit Go.ChangeShapes Go.WideShapes YtfmjgjfbnilpoaaW.PrintWords YtfmjgjfbnilpoaaW.PrintLast YtfmjgjfbnilpoaaW.PrintMore
set_option linter.unusedVariables false
structure Ens where
 nm : ByteArray
 fs : List ByteArray
 outs : Int
 bs : List Int
 ts : List S53
def kE : Kd Ens := Kd.iso (Kd.pair Kd.string (Kd.pair (Kd.slice 9 Kd.string) (Kd.pair (Kd.int .i64) (Kd.pair (Kd.slice 2 (Kd.int .i64)) (Kd.slice 53 k53))))) (fun x : Ens => (x.nm, x.fs, x.outs, x.bs, x.ts))
theorem kE_open {w : World} {x : Ens} {cs : List Value} (h : kE.K w x cs) : ∃ AF cF AB cB AT cT, cs = [.string x.nm, .slice AF x.fs.length cF, .int .i64 x.outs, .slice AB x.bs.length cB, .slice AT x.ts.length cT] ∧ x.fs.length ≤ cF ∧ Kd.C Kd.string w AF x.fs.length x.fs ∧ x.bs.length ≤ cB ∧ Kd.C (Kd.int .i64) w AB x.bs.length x.bs ∧ x.ts.length ≤ cT ∧ Kd.C k53 w AT x.ts.length x.ts := by
 obtain ⟨_, _, rfl, rfl, ⟨_, _, rfl, ⟨AF, cF, rfl, l1, g1⟩, ⟨_, _, rfl, rfl, ⟨_, _, rfl, ⟨AB, cB, rfl, l3, g3⟩, ⟨AT, cT, rfl, l4, g4⟩⟩⟩⟩⟩ := h
 exact ⟨AF, cF, AB, cB, AT, cT, rfl, l1, g1, l3, g3, l4, g4⟩
def okInts (xs : List Int) : Prop := xs.length * 8 ≤ 140737488351232 ∧ ∀ x ∈ xs, (Lit.int .i64 x).wf = true
def okNode (x : S71) : Prop := ((Lit.int .u8 x.f0).wf = true) ∧ ((Lit.int .i64 x.f1).wf = true) ∧ ((Lit.int .i64 x.f2).wf = true) ∧ (x.f3 < 2 ^ 64) ∧ (okInts x.f4) ∧ ((Lit.int .u8 x.f5).wf = true) ∧ ((Lit.int .i64 x.f6).wf = true) ∧ ((Lit.int .i64 x.f7).wf = true)
def okNodes (xs : List S71) : Prop := xs.length * 80 ≤ 140737488351232 ∧ ∀ x ∈ xs, okNode x
def okTree (x : S53) : Prop := ((Lit.int .i64 x.f0).wf = true) ∧ (okNodes x.f1)
def okTrees (xs : List S53) : Prop := xs.length * 32 ≤ 140737488351232 ∧ ∀ x ∈ xs, okTree x
def okNames (xs : List ByteArray) : Prop := xs.length * 16 ≤ 140737488351232 ∧ ∀ x ∈ xs, x.size ≤ 140737488351232
def okE (x : Ens) : Prop := (x.nm.size ≤ 140737488351232) ∧ (okNames x.fs) ∧ ((Lit.int .i64 x.outs).wf = true) ∧ (okInts x.bs) ∧ (okTrees x.ts)
theorem oInt : Opens Try.prog 3 (Kd.int .i64) (fun x => (Lit.int .i64 x).wf = true) := opens_int Try.underlying3 (by kernel_rfl)
theorem oInt64 : Opens Try.prog 2 (Kd.int .i64) (fun x => (Lit.int .i64 x).wf = true) := opens_int Try.underlying2 (by kernel_rfl)
theorem oStr : Opens Try.prog 9 Kd.string (fun x => x.size ≤ 140737488351232) := opens_string Try.underlying9 (by kernel_rfl)
theorem oF : Opens Try.prog 42 Kd.f64 (fun x => x < 2 ^ 64) := opens_f64 Try.underlying42 (by kernel_rfl)
theorem oKind : Opens Try.prog 68 (Kd.int .u8) (fun x => (Lit.int .u8 x).wf = true) := opens_int Try.underlying68 (by kernel_rfl)
theorem oSide : Opens Try.prog 69 (Kd.int .u8) (fun x => (Lit.int .u8 x).wf = true) := opens_int Try.underlying69 (by kernel_rfl)
theorem oInts : Opens Try.prog 54 (Kd.slice 3 (Kd.int .i64)) okInts := opens_slice (b := 8) Try.underlying54 (by kernel_rfl) (by kernel_rfl) oInt
theorem oInt64s : Opens Try.prog 61 (Kd.slice 2 (Kd.int .i64)) okInts := opens_slice (b := 8) Try.underlying61 (by kernel_rfl) (by kernel_rfl) oInt64
theorem oNames : Opens Try.prog 60 (Kd.slice 9 Kd.string) okNames := opens_slice (b := 16) Try.underlying60 (by kernel_rfl) (by kernel_rfl) oStr
theorem oNode : Opens Try.prog 71 k71 okNode := (opens_struct (fun p => (⟨p.1, p.2.1, p.2.2.1, p.2.2.2.1, p.2.2.2.2.1, p.2.2.2.2.2.1, p.2.2.2.2.2.2.1, p.2.2.2.2.2.2.2⟩ : S71)) (fun _ => rfl) Try.underlying71 (by kernel_rfl) (opensF_cons rfl oKind (opensF_cons rfl oInt64 (opensF_cons rfl oInt (opensF_cons rfl oF (opensF_cons rfl oInts (opensF_cons rfl oSide (opensF_cons rfl oInt (opensF_one rfl oInt))))))))).mono fun _ h => h
theorem oNodes : Opens Try.prog 51 (Kd.slice 71 k71) okNodes := opens_slice (b := 80) Try.underlying51 (by kernel_rfl) (by kernel_rfl) oNode
theorem oTree : Opens Try.prog 53 k53 okTree := (opens_struct (fun p => (⟨p.1, p.2⟩ : S53)) (fun _ => rfl) Try.underlying53 (by kernel_rfl) (opensF_cons rfl oInt (opensF_one rfl oNodes))).mono fun _ h => h
theorem oTrees : Opens Try.prog 22 (Kd.slice 53 k53) okTrees := opens_slice (b := 32) Try.underlying22 (by kernel_rfl) (by kernel_rfl) oTree
theorem oE : Opens Try.prog 63 kE okE := (opens_struct (fun p => (⟨p.1, p.2.1, p.2.2.1, p.2.2.2.1, p.2.2.2.2⟩ : Ens)) (fun _ => rfl) Try.underlying63 (by kernel_rfl) (opensF_cons rfl oStr (opensF_cons rfl oNames (opensF_cons rfl oInt (opensF_cons rfl oInt64s (opensF_one rfl oTrees)))))).mono fun _ h => h
end Go.Proofs.Ytfmjgjfbnilpoaa.FAll
