/- limb.N's Mul: the whole product. Condition: four limbs each. -/
import Derived.Test.YtcecgbjpmegljaaLimA
import Derived.Test.YtcecgbjpmegljaaLimQ
import Derived.StillTailTactics
namespace Go.Proofs.Ytcecgbjpmegljaa.Lm
open Go.RowKit
theorem nar8 (xs : List Nat) (hl : xs.length = 8) : (arr .u64 (nar xs)).size = (arr .u64 (List.replicate 8 0)).size := by rw [arr_size, arr_size, nar_len, hl, List.length_replicate]
theorem prod_le (x y : Nat) (hx : x < 18446744073709551616) (hy : y < 18446744073709551616) : x * y ≤ 18446744073709551615 * 18446744073709551615 := Nat.mul_le_mul (by omega) (by omega)

end Go.Proofs.Ytcecgbjpmegljaa.Lm
