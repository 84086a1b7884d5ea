/-
  Words of the form 2^H - 2^M: what bits.fill, bits.Mask, OnesCount64, TrailingZeros64 make of them (each case reckoned).
-/
import Derived.Test.YtdhiljimmijghaaDoorFAllx2
import Derived.Test.YtdhiljimmijghaaDoorTz
namespace Go.Proofs.YtdhiljimmijghaaDoor.FAll
open Go.RowKit Go.Proofs.YtdhiljimmijghaaDoorW.PrintWords Go.Proofs.YtdhiljimmijghaaDoorW.PrintLast Go.Proofs.YtdhiljimmijghaaDoorW.PrintMore
set_option linter.unusedVariables false
set_option linter.unusedSimpArgs false
set_option maxRecDepth 100000 in
theorem one_word : ∀ h : Nat, h < 65 → 0 < h → Go.bits .or .u64 0 (shl .u64 (shr .u64 18446744073709551615 (wrap64 (64 - wrap64 ((h : Int) - 0)))) 0) = 2 ^ h - 1 := by decide +kernel
set_option maxRecDepth 100000 in
theorem andNot_word : ∀ H : Nat, H < 65 → ∀ M : Nat, M < 65 → M ≤ H → Go.bits .andNot .u64 (2 ^ H - 1) (2 ^ M - 1) = 2 ^ H - 2 ^ M := by decide +kernel
set_option maxRecDepth 100000 in
theorem count_word : ∀ H : Nat, H < 65 → ∀ M : Nat, M < 65 → M ≤ H → bits_OnesCount64.f (2 ^ H - 2 ^ M) = some ((H : Int) - M) := by decide +kernel
set_option maxRecDepth 100000 in
theorem ctz_word : ∀ H : Nat, H < 65 → ∀ M : Nat, M < 65 → M < H → Lib.ctz 64 ((2 : Int) ^ H - 2 ^ M).toNat = M := by decide +kernel
end Go.Proofs.YtdhiljimmijghaaDoor.FAll
