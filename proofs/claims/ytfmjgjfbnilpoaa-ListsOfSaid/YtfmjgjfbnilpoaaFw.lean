/-
 Words beside the print's: binary64 numbers as one more kind of scalar: how they lie in memory, how a walk compares and converts them.
-/
import Derived.Test.YtfmjgjfbnilpoaaProg
import Derived.Test.YtfmjgjfbnilpoaaWz
namespace Go.Proofs.YtfmjgjfbnilpoaaW.PrintWords
open Go.RowKit
namespace Kd
def f64 : Kd Nat := scalar (Value.float .f64) (fun _ => rfl)
theorem heap_f64 : Heap Kd.f64 := ⟨fun _ h => h⟩
section
variable {w : World} {A : Option Addr} {n : Nat}
theorem at_f64 {xs : List Nat} (h : Kd.f64.C w A n xs) (i : Int) (h0 : 0 ≤ i) (h1 : i < n) : ∃ ad, A = some ad ∧ w.cell? (ad.add i.toNat) = some (.float .f64 (rdOf (0 : Nat) xs i)) :=
 ReadsOf.at_ (reads_of_C (enc := Value.float .f64) (d := (0 : Nat)) (h1 := fun _ => rfl) h) i h0 h1
theorem foot_f64 {ad : Addr} {l : List Nat} (h : Kd.f64.C w (some ad) n l) (i : Int) (h0 : 0 ≤ i) (h1 : i < n) : w.cell? (ad.add i.toNat) = some (.float .f64 (rdOf (0 : Nat) l i)) := by
 obtain ⟨ad', he, hc⟩ := at_f64 h i h0 h1
 injection he with he
 subst he
 exact hc
end
end Kd
def feq (a b : Nat) : Bool := FloatKind.f64.format.order a b == some .eq
def flt (a b : Nat) : Bool := FloatKind.f64.format.order a b == some .lt
def fgt (a b : Nat) : Bool := FloatKind.f64.format.order a b == some .gt
def fle (a b : Nat) : Bool := FloatKind.f64.format.order a b == some .lt || FloatKind.f64.format.order a b == some .eq
def fge (a b : Nat) : Bool := FloatKind.f64.format.order a b == some .gt || FloatKind.f64.format.order a b == some .eq
def f64bits (a : Nat) : Int := (a : Int)
def f64from (a : Int) : Nat := a.toNat
def f64int (a : Int) : Nat := FloatKind.f64.nearest a
theorem feq_walk (t : TypeId) (a b : Nat) : binOp .eql t (.float .f64 a) (.float .f64 b) = pure (.bool (feq a b)) := by simp [binOp, Op.floatCmp, feq]
theorem fne_walk (t : TypeId) (a b : Nat) : binOp .neq t (.float .f64 a) (.float .f64 b) = pure (.bool (!feq a b)) := by simp [binOp, Op.floatCmp, feq, bne]
theorem flt_walk (t : TypeId) (a b : Nat) : binOp .lss t (.float .f64 a) (.float .f64 b) = pure (.bool (flt a b)) := by simp [binOp, Op.floatCmp, flt]
theorem fle_walk (t : TypeId) (a b : Nat) : binOp .leq t (.float .f64 a) (.float .f64 b) = pure (.bool (fle a b)) := by simp [binOp, Op.floatCmp, fle]
theorem fgt_walk (t : TypeId) (a b : Nat) : binOp .gtr t (.float .f64 a) (.float .f64 b) = pure (.bool (fgt a b)) := by simp [binOp, Op.floatCmp, fgt]
theorem fge_walk (t : TypeId) (a b : Nat) : binOp .geq t (.float .f64 a) (.float .f64 b) = pure (.bool (fge a b)) := by simp [binOp, Op.floatCmp, fge]
theorem feq_fold (a b : Nat) : (FloatKind.f64.format.order a b == some Ordering.eq) = feq a b := rfl
theorem fne_fold (a b : Nat) : (FloatKind.f64.format.order a b != some Ordering.eq) = !feq a b := rfl
theorem flt_fold (a b : Nat) : (FloatKind.f64.format.order a b == some Ordering.lt) = flt a b := rfl
theorem fgt_fold (a b : Nat) : (FloatKind.f64.format.order a b == some Ordering.gt) = fgt a b := rfl
theorem fle_fold (a b : Nat) : (flt a b || feq a b) = fle a b := rfl
theorem fge_fold (a b : Nat) : (fgt a b || feq a b) = fge a b := rfl
theorem fstore_walk {P : Program} {w : World} (a : Addr) (m : Mode) (k : FloatKind) (b : Nat) : (store a (.float k b) m).run P w = stored P w a (.float k b) m := run_store P w a _ m rfl
theorem fint_walk {P : Program} (w : World) (src dst : TypeId) (q : IntKind) (n : Int) (hs : (P.underlying src).isSome = true) (hd : P.underlying dst = some (.float .f64)) :
  (convert src dst (.int q n)).run P w = .ok (.float .f64 (f64int n)) w := by
 obtain ⟨s, hs'⟩ := Option.isSome_iff_exists.1 hs
 cases s <;> simp [convert, run_underlying hs', run_underlying hd, Conv.intToFloat, f64int]
theorem run_f64bits (b : Nat) (w : World) : (callFunc 47 #[.float .f64 b]).run Try.prog w = .ok (.value (.int .u64 (f64bits b))) w := by kernel_rfl
theorem run_f64from (n : Int) (w : World) : (callFunc 58 #[.int .u64 n]).run Try.prog w = .ok (.value (.float .f64 (f64from n))) w := by kernel_rfl
end Go.Proofs.YtfmjgjfbnilpoaaW.PrintWords
