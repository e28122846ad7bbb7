/- limb.N's Num: the bytes of a number. Condition: four limbs. -/
import Derived.Test.YtcecgbjpmegljaaLimO
import Derived.Test.YtcecgbjpmegljaaLimQ
namespace Go.Proofs.Ytcecgbjpmegljaa.Lm
open Go.RowKit
theorem zero32 (w : World) : (zeroValue 37).run Try.prog w = .ok (.agg (arr .u8 (List.replicate 32 0))) w := by kernel_rfl
theorem nar32 (xs : List Nat) (hl : xs.length = 32) : (arr .u8 (nar xs)).size = (arr .u8 (List.replicate 32 0)).size := by rw [arr_size, arr_size, nar_len, hl, List.length_replicate]
theorem nar32s (xs : List Nat) (hl : xs.length = 32) : (Try.prog.info? 37).map (·.size) = some (arr .u8 (nar xs)).size := by rw [arr_size, nar_len, hl]; kernel_rfl

end Go.Proofs.Ytcecgbjpmegljaa.Lm
