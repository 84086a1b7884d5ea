/-
  Lists of float64 and of bool as arguments.
-/
import Derived.Test.YtpeiafamkajedaaDoorOe
namespace Go.Proofs.YtpeiafamkajedaaDoor.FAll
open Go.RowKit Go.Proofs.YtpeiafamkajedaaDoorW.PrintWords Go.Proofs.YtpeiafamkajedaaDoorW.PrintLast Go.Proofs.YtpeiafamkajedaaDoorW.PrintMore
def okFs (l : List Nat) : Prop := l.length * 8 ≤ 140737488351232 ∧ ∀ x ∈ l, x < 2 ^ 64
def okBools (l : List Bool) : Prop := l.length * 1 ≤ 140737488351232 ∧ ∀ x ∈ l, True
theorem oFs : Opens Tryd.prog 40 (Kd.slice 62 Kd.f64) okFs := opens_slice (b := 8) Tryd.underlying40 (by kernel_rfl) (by kernel_rfl) oF
theorem oBool : Opens Tryd.prog 4 Kd.bool (fun _ => True) := opens_bool Tryd.underlying4 (by kernel_rfl)
theorem oBools : Opens Tryd.prog 27 (Kd.slice 4 Kd.bool) okBools := opens_slice (b := 1) Tryd.underlying27 (by kernel_rfl) (by kernel_rfl) oBool
end Go.Proofs.YtpeiafamkajedaaDoor.FAll
