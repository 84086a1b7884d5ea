/-
  A float64 and a list of float64 as arguments, where no ensembles are about.
-/
import Derived.Test.YtdhiljimmijghaaDoorFAllx0
import Derived.Test.YtdhiljimmijghaaDoorOp
namespace Go.Proofs.YtdhiljimmijghaaDoor.FAll
open Go.RowKit Go.ChangeShapes Go.WideShapes Go.Proofs.YtdhiljimmijghaaDoorW.PrintWords Go.Proofs.YtdhiljimmijghaaDoorW.PrintLast Go.Proofs.YtdhiljimmijghaaDoorW.PrintMore
set_option linter.unusedVariables false
def okFs (l : List Nat) : Prop := l.length * 8 ≤ 140737488351232 ∧ ∀ x ∈ l, x < 2 ^ 64
theorem oF : Opens Tryd.prog 23 Kd.f64 (fun x => x < 2 ^ 64) := opens_f64 Tryd.underlying23 (by kernel_rfl)
theorem oFs : Opens Tryd.prog 22 (Kd.slice 23 Kd.f64) okFs := opens_slice (b := 8) Tryd.underlying22 (by kernel_rfl) (by kernel_rfl) oF
end Go.Proofs.YtdhiljimmijghaaDoor.FAll
