/- The clamping of a key, in plain words. No program here; no condition. -/
import Derived.Test.YtanjhngehfbpbaaDoorRpP
namespace Go.Proofs.YtanjhngehfbpbaaDoor.Rd
open Go.RowKit Lm Fp Cu

theorem and248 : ∀ x : Nat, x < 256 → bits .and .u8 (x : Int) 248 = ((x / 8 * 8 : Nat) : Int) := by decide +kernel
theorem or64 : ∀ x : Nat, x < 256 → bits .or .u8 (bits .and .u8 (x : Int) 127) 64 = ((x % 64 + 64 : Nat) : Int) := by decide +kernel
theorem clamp_set (v : Nat) (hv : v < 2 ^ 256) : ((dig 256 32 v).set 0 (v % 256 / 8 * 8)).set 31 (v / 256 ^ 31 % 64 + 64) = dig 256 32 (clamp v) := by
  have hlt : v / 256 ^ 31 < 256 := Nat.div_lt_of_lt_mul (Nat.lt_of_lt_of_le hv (by decide))
  have hcl : clamp v < 256 ^ 32 := by
    unfold clamp
    have := Nat.mod_lt (v / 8 * 8) (show 0 < 2 ^ 254 by decide)
    exact Nat.lt_of_lt_of_le (Nat.add_lt_add_right this _) (by decide)
  have l0 : v % 256 / 8 * 8 < 256 := by omega
  have l1 : ∀ x ∈ (dig 256 32 v).set 0 (v % 256 / 8 * 8), x < 256 := lt_set (dig_lt 256 (by decide) _ _) _ _ l0
  refine dig_eq 256 (by decide) 32 _ _ (by rw [List.length_set, List.length_set, dig_len]) (lt_set l1 _ _ (by omega)) ?_
  have h0 := val_set 256 (dig 256 32 v) 0 (v % 256 / 8 * 8) (by rw [dig_len]; decide)
  have h1 := val_set 256 ((dig 256 32 v).set 0 (v % 256 / 8 * 8)) 31 (v / 256 ^ 31 % 64 + 64) (by rw [List.length_set, dig_len]; decide)
  have g31 : ((dig 256 32 v).set 0 (v % 256 / 8 * 8)).getD 31 0 = v / 256 ^ 31 := by
    simp only [List.getD]
    rw [List.getElem?_set_ne (by decide)]
    have := dig_get 256 32 v 31 (by decide)
    rw [Nat.mod_eq_of_lt hlt] at this
    simpa [List.getD] using this
  have g0 : (dig 256 32 v).getD 0 0 = v % 256 := by rw [dig_get _ _ _ _ (by decide)]; simp
  have hv32 : v % 256 ^ 32 = v := Nat.mod_eq_of_lt (Nat.lt_of_lt_of_le hv (by decide))
  rw [g0, val_dig, hv32, Nat.pow_zero, Nat.one_mul, Nat.one_mul] at h0
  rw [g31] at h1
  have e1 : clamp v = v / 8 * 8 % 2 ^ 254 + 2 ^ 254 := rfl
  have e3 : v / 8 * 8 / 2 ^ 254 = v / 256 ^ 31 / 64 := by
    rw [show (2 : Nat) ^ 254 = 8 * 2 ^ 251 by decide, ← Nat.div_div_eq_div_mul, Nat.mul_div_cancel _ (by decide), Nat.div_div_eq_div_mul, Nat.div_div_eq_div_mul]
  have e2 := Nat.mod_add_div (v / 8 * 8) (2 ^ 254)
  have e4 := Nat.mod_add_div (v / 256 ^ 31) 64
  rw [e3] at e2
  clear g31 g0
  generalize v / 256 ^ 31 = t at *
  rw [e1]
  have k1 : (256 : Nat) ^ 31 = 452312848583266388373324160190187140051835877600158453279131187530910662656 := by decide
  have k2 : (2 : Nat) ^ 254 = 28948022309329048855892746252171976963317496166410141009864396001978282409984 := by decide
  rw [k1] at h1
  rw [k2] at e2 ⊢
  have e5 : v % 256 / 8 * 8 + (v - v % 256) = v / 8 * 8 := by omega
  have e6 : v % 256 ≤ v := Nat.mod_le _ _
  omega
end Go.Proofs.YtanjhngehfbpbaaDoor.Rd
