/- limb.N's Add, Sub: what they answer. Condition: four limbs each. -/
import Derived.Test.YtcecgbjpmegljaaLimM
import Derived.Test.YtcecgbjpmegljaaBlks
namespace Go.Proofs.Ytcecgbjpmegljaa.Lm
open Go.RowKit
theorem sub_bits (x y b : Nat) (hx : x < 18446744073709551616) (hy : y < 18446744073709551616) (hb : b ≤ 1) : (x + 18446744073709551616 - y - b) % 18446744073709551616 + y + b = x + 18446744073709551616 * (if x < y + b then 1 else 0) := by
  split <;> omega
theorem nar4 (xs : List Nat) (hl : xs.length = 4) : (arr .u64 (nar xs)).size = (arr .u64 (List.replicate 4 0)).size := by rw [arr_size, arr_size, nar_len, hl, List.length_replicate]
theorem take4 (xs : List Nat) (hl : xs.length = 4) : xs.take 4 = xs := List.take_of_length_le (by omega)
theorem add_fin (X Y S c : Nat) (h : S + 18446744073709551616 ^ 4 * c = X + Y) (hS : S < 18446744073709551616 ^ 4) : S = (X + Y) % 18446744073709551616 ^ 4 ∧ c = (X + Y) / 18446744073709551616 ^ 4 := by
  rw [← h, Nat.add_mul_mod_self_left, Nat.mod_eq_of_lt hS, Nat.add_mul_div_left _ _ (by decide), Nat.div_eq_of_lt hS, Nat.zero_add]
  exact ⟨rfl, rfl⟩
theorem sub_fin (X Y S c : Nat) (h : S + Y = X + 18446744073709551616 ^ 4 * c) (hS : S < 18446744073709551616 ^ 4) (hY : Y < 18446744073709551616 ^ 4) (hc : c ≤ 1) : S = (X + 18446744073709551616 ^ 4 - Y) % 18446744073709551616 ^ 4 ∧ c = (if X < Y then 1 else 0) := by
  have : c = 0 ∨ c = 1 := by omega
  generalize 18446744073709551616 ^ 4 = P at h hS hY ⊢
  rcases this with rfl | rfl
  · rw [if_neg (by omega)]
    rw [show X + P - Y = S + P by omega, Nat.add_mod_right, Nat.mod_eq_of_lt hS]
    exact ⟨rfl, rfl⟩
  · rw [if_pos (by omega), show X + P - Y = S by omega, Nat.mod_eq_of_lt hS]
    exact ⟨rfl, rfl⟩

end Go.Proofs.Ytcecgbjpmegljaa.Lm
