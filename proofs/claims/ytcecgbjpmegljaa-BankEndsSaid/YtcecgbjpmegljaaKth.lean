/- 32 bytes and the number that they are; limbs of them. Condition: 32 bytes. -/
import Derived.Test.YtcecgbjpmegljaaFdA
import Derived.Test.YtcecgbjpmegljaaScP
import Derived.Test.YtcecgbjpmegljaaByt
namespace Go.Proofs.Ytcecgbjpmegljaa.Sl
open Go.RowKit Lm Fp Sc
theorem zero_num (w : World) : (zeroValue 37).run Try.prog w = .ok (.agg (arr .u8 (List.replicate 32 0))) w := by kernel_rfl
theorem size_num : (Try.prog.info? 37).map (·.size) = some 32 := by kernel_rfl
theorem num_s {xs : List Int} (h : xs.length = 32) : (Try.prog.info? 37).map (·.size) = some (arr .u8 xs).size := by rw [arr_size, h]; exact size_num
theorem num_i {xs : List Int} (h : xs.length = 32) : (Try.prog.info? 37).map (·.size) = some xs.length := by rw [h]; exact size_num
/-- The bytes ks are the number a. -/
def K32 (ks : List Int) (a : Nat) : Prop := ks = nar (dig 256 32 a) ∧ a < 256 ^ 32
theorem K32.len {ks : List Int} {a : Nat} (h : K32 ks a) : ks.length = 32 := by rw [h.1, nar_len, dig_len]
theorem K32.cast {ks : List Int} {a b : Nat} (h : K32 ks a) (e : a = b) : K32 ks b := e ▸ h
theorem pow_same : 256 ^ 32 = 18446744073709551616 ^ 4 := by decide
end Go.Proofs.Ytcecgbjpmegljaa.Sl
