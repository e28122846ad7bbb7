/- limb.Of: the number of 32 bytes. Condition: 32 bytes. -/
import Derived.Test.YtcecgbjpmegljaaLimA
import Derived.Test.YtcecgbjpmegljaaByt
namespace Go.Proofs.Ytcecgbjpmegljaa.Lm
open Go.RowKit
theorem nar32i (xs : List Nat) (hl : xs.length = 32) : (Try.prog.info? 37).map (·.size) = some (nar xs).length := by rw [nar_len, hl]; kernel_rfl

theorem or_shl (x y s : Nat) (hs : s ≤ 56) (hx : x < 2 ^ s) (hy : y < 256) : bits .or .u64 (x : Int) (IntKind.u64.wrap ((y : Int) * 2 ^ s)) = ((x + y * 2 ^ s : Nat) : Int) := by
  have hp : 2 ^ s ≤ 2 ^ 56 := Nat.pow_le_pow_right (by omega) hs
  have h2 : y * 2 ^ s ≤ 255 * 2 ^ 56 := Nat.mul_le_mul (by omega) hp
  have e1 : IntKind.u64.wrap ((y : Int) * 2 ^ s) = ((y * 2 ^ s : Nat) : Int) := by
    rw [show (y : Int) * 2 ^ s = ((y * 2 ^ s : Nat) : Int) by push_cast; rfl, IntKind.wrap_u64]
    omega
  rw [e1]
  have hx1 : (BitVec.ofInt 64 (x : Int)).toNat = x := by rw [BitVec.ofInt_natCast, BitVec.toNat_ofNat]; exact Nat.mod_eq_of_lt (by omega)
  have hx2 : (BitVec.ofInt 64 ((y * 2 ^ s : Nat) : Int)).toNat = y * 2 ^ s := by rw [BitVec.ofInt_natCast, BitVec.toNat_ofNat]; exact Nat.mod_eq_of_lt (by omega)
  show IntKind.u64.wrap ((BitVec.ofInt 64 (x : Int) ||| BitVec.ofInt 64 ((y * 2 ^ s : Nat) : Int)).toNat : Int) = _
  rw [BitVec.toNat_or, hx1, hx2, Nat.or_comm, Nat.mul_comm y, ← Nat.two_pow_add_eq_or_of_lt hx, IntKind.wrap_u64, Nat.mul_comm _ y]
  omega
theorem pow_split (j : Nat) : 256 ^ j = 18446744073709551616 ^ (j / 8) * 2 ^ (8 * (j % 8)) := by
  rw [show (256 : Nat) = 2 ^ 8 by rfl, show (18446744073709551616 : Nat) = 2 ^ 64 by rfl, ← Nat.pow_mul, ← Nat.pow_mul, ← Nat.pow_add]
  congr 1
  omega
theorem of_step (v j x y : Nat) (os : List Nat) (hj : j < 32) (hos : os = dig 18446744073709551616 4 v) (hv : v < 256 ^ j) (hx : os.getD (j / 8) 0 = x) (hy : y < 256) :
    x < 2 ^ (8 * (j % 8)) ∧ os.set (j / 8) (x + y * 2 ^ (8 * (j % 8))) = dig 18446744073709551616 4 (v + 256 ^ j * y) := by
  have e := pow_split j
  have hs : 8 * (j % 8) ≤ 56 := by omega
  have hol : os.length = 4 := by rw [hos, dig_len]
  have hx2 : x < 2 ^ (8 * (j % 8)) := by
    rw [← hx, hos, dig_get _ _ _ _ (by omega)]
    refine Nat.lt_of_le_of_lt (Nat.mod_le _ _) (Nat.div_lt_of_lt_mul ?_)
    rw [← e]; exact hv
  refine ⟨hx2, ?_⟩
  have hp : 2 ^ (8 * (j % 8)) ≤ 2 ^ 56 := Nat.pow_le_pow_right (by omega) hs
  have h2 : y * 2 ^ (8 * (j % 8)) ≤ 255 * 2 ^ (8 * (j % 8)) := Nat.mul_le_mul (by omega) (Nat.le_refl _)
  refine dig_eq 18446744073709551616 (by decide) 4 _ _ (by simpa using hol) (lt_set (by rw [hos]; exact dig_lt _ (by decide) _ _) _ _ (by omega)) ?_
  have h3 := val_set 18446744073709551616 os (j / 8) (x + y * 2 ^ (8 * (j % 8))) (by omega)
  have h4 : val 18446744073709551616 os = v := by
    rw [hos, val_dig]
    refine Nat.mod_eq_of_lt (Nat.lt_of_lt_of_le hv ?_)
    exact Nat.le_trans (Nat.pow_le_pow_right (by decide) (show j ≤ 32 by omega)) (by decide)
  have h5 : 18446744073709551616 ^ (j / 8) * (y * 2 ^ (8 * (j % 8))) = 256 ^ j * y := by rw [e, Nat.mul_comm y, Nat.mul_assoc]
  rw [hx, h4, Nat.mul_add, h5] at h3
  omega

end Go.Proofs.Ytcecgbjpmegljaa.Lm
