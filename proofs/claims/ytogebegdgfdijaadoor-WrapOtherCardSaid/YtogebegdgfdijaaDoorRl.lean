/- What a point's bytes come to, in plain words. No program here; no condition. The clamping of a key, in plain words. No program here; no condition. -/
import Derived.Test.YtogebegdgfdijaaDoorFa
namespace Go.Proofs.YtogebegdgfdijaaDoor.Rd
open Go.RowKit Lm Fp Cu
def rsqrt (a : Nat) : Nat × Bool := if fmul (fpow a eighth 256) (fpow a eighth 256) = a then (fpow a eighth 256, true) else (fmul (fpow a eighth 256) im, decide (fmul (fmul (fpow a eighth 256) im) (fmul (fpow a eighth 256) im) = a))
theorem rsqrt_lt (a : Nat) : (rsqrt a).1 < p := by
  unfold rsqrt
  split
  · exact fpow_lt _ _ _
  · exact fmul_lt _ _
theorem fsub0 (r : Nat) (h : r < p) : fsub 0 r = if r = 0 then 0 else p - r := by
  unfold fsub
  rw [Nat.zero_add]
  split
  · rename_i e; subst e; rw [Nat.sub_zero, Nat.mod_self]
  · rw [Nat.mod_eq_of_lt (by omega)]
theorem fsqrt_r (a : Nat) : fsqrt a = if (rsqrt a).2 = true then (if (rsqrt a).1 % 2 = 1 then fsub 0 (rsqrt a).1 else (rsqrt a).1, true) else (0, false) := by
  unfold fsqrt rsqrt
  simp only
  by_cases h : fmul (fpow a eighth 256) (fpow a eighth 256) = a
  · rw [if_pos h, if_pos h]
    simp only [h, if_true]
  · rw [if_neg h, if_neg h]
    simp only [decide_eq_true_eq]
theorem p_odd : p % 2 = 1 := by decide +kernel
/-- The number under the root. -/
def under (y : Nat) : Nat := fmul (fsub (fmul y y) 1) (finv (fadd (fmul dd (fmul y y)) 1))
theorem eread_none_big (v : Nat) (h : ¬ v % 2 ^ 255 < p) : eread v = none := by
  unfold eread
  simp only
  rw [if_neg h]
theorem eread_none_root (v : Nat) (h : (rsqrt (under (v % 2 ^ 255))).2 = false) : eread v = none := by
  unfold eread
  simp only
  split
  · rw [if_neg]
    rintro ⟨h1, -⟩
    have e := fsqrt_r (under (v % 2 ^ 255))
    rw [h, if_neg (by decide)] at e
    rw [show fsqrt (fmul (fsub (fmul (v % 2 ^ 255) (v % 2 ^ 255)) 1) (finv (fadd (fmul dd (fmul (v % 2 ^ 255) (v % 2 ^ 255))) 1))) = fsqrt (under (v % 2 ^ 255)) from rfl, e] at h1
    cases h1
  · rfl
theorem eread_none_zero (v : Nat) (hb : v / 2 ^ 255 = 1) (h0 : (rsqrt (under (v % 2 ^ 255))).1 = 0) : eread v = none := by
  unfold eread
  simp only
  split
  · rw [if_neg]
    rintro ⟨h1, h2⟩
    rw [show fsqrt (fmul (fsub (fmul (v % 2 ^ 255) (v % 2 ^ 255)) 1) (finv (fadd (fmul dd (fmul (v % 2 ^ 255) (v % 2 ^ 255))) 1))) = fsqrt (under (v % 2 ^ 255)) from rfl, fsqrt_r, h0] at h1 h2
    refine h2 hb ?_
    split at h1
    · rename_i h3; rw [if_pos h3]; rfl
    · cases h1
  · rfl
theorem eread_some (v r : Nat) (hv : v < 2 ^ 256) (hy : v % 2 ^ 255 < p) (hr : (rsqrt (under (v % 2 ^ 255))).1 = r) (hk : (rsqrt (under (v % 2 ^ 255))).2 = true) (hz : ¬ (r = 0 ∧ v / 2 ^ 255 = 1)) :
    eread v = some ⟨if r % 2 ≠ v / 2 ^ 255 then fsub 0 r else r, v % 2 ^ 255, 1, fmul (if r % 2 ≠ v / 2 ^ 255 then fsub 0 r else r) (v % 2 ^ 255)⟩ := by
  have hrl := rsqrt_lt (under (v % 2 ^ 255))
  rw [hr] at hrl
  have hod := p_odd
  have f0 := fsub0 r hrl
  have hb2 : v / 2 ^ 255 = 0 ∨ v / 2 ^ 255 = 1 := by
    have : v / 2 ^ 255 < 2 := Nat.div_lt_of_lt_mul (by rw [← Nat.pow_succ]; exact hv)
    omega
  have e := fsqrt_r (under (v % 2 ^ 255))
  rw [hk, if_pos rfl, hr] at e
  unfold eread
  simp only
  rw [if_pos hy, show fsqrt (fmul (fsub (fmul (v % 2 ^ 255) (v % 2 ^ 255)) 1) (finv (fadd (fmul dd (fmul (v % 2 ^ 255) (v % 2 ^ 255))) 1))) = fsqrt (under (v % 2 ^ 255)) from rfl, e]
  simp only [true_and]
  have key : (if v / 2 ^ 255 = 1 then fsub 0 (if r % 2 = 1 then fsub 0 r else r) else if r % 2 = 1 then fsub 0 r else r) = if r % 2 ≠ v / 2 ^ 255 then fsub 0 r else r := by
    rcases hb2 with hb | hb
    · rw [hb, if_neg (by decide)]
      by_cases h1 : r % 2 = 1
      · rw [if_pos h1, if_pos (by omega)]
      · rw [if_neg h1, if_neg (by omega)]
    · rw [hb, if_pos rfl]
      by_cases h1 : r % 2 = 1
      · rw [if_pos h1, if_neg (by omega), f0, if_neg (by omega), fsub0 _ (by omega), if_neg (by omega)]
        omega
      · rw [if_neg h1, if_pos (by omega)]
  rw [if_pos, key]
  intro hb
  split
  · rename_i h1
    rw [f0, if_neg (by omega)]
    omega
  · intro h0
    exact hz ⟨h0, hb⟩
/-! ### The bytes -/
theorem enc_set (Y b : Nat) (hY : Y < 2 ^ 255) (hb : b ≤ 1) : (dig 256 32 Y).set 31 (Y / 256 ^ 31 + 128 * b) = dig 256 32 (Y + 2 ^ 255 * b) := by
  have hlt : Y / 256 ^ 31 < 128 := Nat.div_lt_of_lt_mul (Nat.lt_of_lt_of_le hY (by decide))
  refine dig_eq 256 (by decide) 32 _ _ (by rw [List.length_set, dig_len]) (lt_set (dig_lt 256 (by decide) _ _) _ _ (by omega)) ?_
  have h := val_set 256 (dig 256 32 Y) 31 (Y / 256 ^ 31 + 128 * b) (by rw [dig_len]; decide)
  rw [dig_get _ _ _ _ (by decide), val_dig, Nat.mod_eq_of_lt (show Y / 256 ^ 31 < 256 by omega), Nat.mod_eq_of_lt (Nat.lt_of_lt_of_le hY (by decide)), Nat.mul_add] at h
  have e : 256 ^ 31 * (128 * b) = 2 ^ 255 * b := by rw [← Nat.mul_assoc]
  rw [e] at h
  omega
theorem top_byte (Y : Nat) (hY : Y < 2 ^ 255) : (dig 256 32 Y).getD 31 0 = Y / 256 ^ 31 ∧ Y / 256 ^ 31 < 128 := by
  have hlt : Y / 256 ^ 31 < 128 := Nat.div_lt_of_lt_mul (Nat.lt_of_lt_of_le hY (by decide))
  rw [dig_get _ _ _ _ (by decide), Nat.mod_eq_of_lt (by omega)]
  exact ⟨rfl, hlt⟩
theorem low_byte (X : Nat) : (dig 256 32 X).getD 0 0 = X % 256 := by rw [dig_get _ _ _ _ (by decide)]; simp
/-- A number's highest bit is put away. -/
theorem dec_set (v : Nat) (hv : v < 2 ^ 256) : (dig 256 32 v).set 31 (v / 256 ^ 31 % 128) = dig 256 32 (v % 2 ^ 255) := by
  have hlt : v / 256 ^ 31 < 256 := Nat.div_lt_of_lt_mul (Nat.lt_of_lt_of_le hv (by decide))
  have hm : v % 2 ^ 255 < 2 ^ 255 := Nat.mod_lt _ (by decide)
  have hb2 : v / 2 ^ 255 ≤ 1 := by
    have : v / 2 ^ 255 < 2 := Nat.div_lt_of_lt_mul (by rw [← Nat.pow_succ]; exact hv)
    omega
  have hd := Nat.mod_add_div v (2 ^ 255)
  refine dig_eq 256 (by decide) 32 _ _ (by rw [List.length_set, dig_len]) (lt_set (dig_lt 256 (by decide) _ _) _ _ (by omega)) ?_
  have h := val_set 256 (dig 256 32 v) 31 (v / 256 ^ 31 % 128) (by rw [dig_len]; decide)
  rw [dig_get _ _ _ _ (by decide), val_dig, Nat.mod_eq_of_lt hlt, Nat.mod_eq_of_lt (Nat.lt_of_lt_of_le hv (by decide))] at h
  have e1 : v / 256 ^ 31 = v / 256 ^ 31 % 128 + 128 * (v / 2 ^ 255) := by
    have : v / 2 ^ 255 = v / 256 ^ 31 / 128 := by rw [Nat.div_div_eq_div_mul]
    rw [this, Nat.mod_add_div]
  have e2 : 256 ^ 31 * (v / 256 ^ 31) = 256 ^ 31 * (v / 256 ^ 31 % 128) + 2 ^ 255 * (v / 2 ^ 255) := by
    rw [show (2 : Nat) ^ 255 * (v / 2 ^ 255) = 256 ^ 31 * (128 * (v / 2 ^ 255)) by rw [← Nat.mul_assoc], ← Nat.mul_add, ← e1]
  omega
theorem top_bit (v : Nat) : v / 256 ^ 31 / 128 = v / 2 ^ 255 := by rw [Nat.div_div_eq_div_mul]
theorem top_byte256 (v : Nat) (hv : v < 2 ^ 256) : (dig 256 32 v).getD 31 0 = v / 256 ^ 31 ∧ v / 256 ^ 31 < 256 := by
  have hlt : v / 256 ^ 31 < 256 := Nat.div_lt_of_lt_mul (Nat.lt_of_lt_of_le hv (by decide))
  rw [dig_get _ _ _ _ (by decide), Nat.mod_eq_of_lt hlt]
  exact ⟨rfl, hlt⟩
end Go.Proofs.YtogebegdgfdijaaDoor.Rd
namespace Go.Proofs.YtogebegdgfdijaaDoor.Rd
open Go.RowKit Lm Fp Cu
theorem and248 : ∀ x : Nat, x < 256 → bits .and .u8 (x : Int) 248 = ((x / 8 * 8 : Nat) : Int) := by decide +kernel
theorem or64 : ∀ x : Nat, x < 256 → bits .or .u8 (bits .and .u8 (x : Int) 127) 64 = ((x % 64 + 64 : Nat) : Int) := by decide +kernel
theorem clamp_set (v : Nat) (hv : v < 2 ^ 256) : ((dig 256 32 v).set 0 (v % 256 / 8 * 8)).set 31 (v / 256 ^ 31 % 64 + 64) = dig 256 32 (clamp v) := by
  have hlt : v / 256 ^ 31 < 256 := Nat.div_lt_of_lt_mul (Nat.lt_of_lt_of_le hv (by decide))
  have hcl : clamp v < 256 ^ 32 := by
    unfold clamp
    have := Nat.mod_lt (v / 8 * 8) (show 0 < 2 ^ 254 by decide)
    exact Nat.lt_of_lt_of_le (Nat.add_lt_add_right this _) (by decide)
  have l0 : v % 256 / 8 * 8 < 256 := by omega
  have l1 : ∀ x ∈ (dig 256 32 v).set 0 (v % 256 / 8 * 8), x < 256 := lt_set (dig_lt 256 (by decide) _ _) _ _ l0
  refine dig_eq 256 (by decide) 32 _ _ (by rw [List.length_set, List.length_set, dig_len]) (lt_set l1 _ _ (by omega)) ?_
  have h0 := val_set 256 (dig 256 32 v) 0 (v % 256 / 8 * 8) (by rw [dig_len]; decide)
  have h1 := val_set 256 ((dig 256 32 v).set 0 (v % 256 / 8 * 8)) 31 (v / 256 ^ 31 % 64 + 64) (by rw [List.length_set, dig_len]; decide)
  have g31 : ((dig 256 32 v).set 0 (v % 256 / 8 * 8)).getD 31 0 = v / 256 ^ 31 := by
    simp only [List.getD]
    rw [List.getElem?_set_ne (by decide)]
    have := dig_get 256 32 v 31 (by decide)
    rw [Nat.mod_eq_of_lt hlt] at this
    simpa [List.getD] using this
  have g0 : (dig 256 32 v).getD 0 0 = v % 256 := by rw [dig_get _ _ _ _ (by decide)]; simp
  have hv32 : v % 256 ^ 32 = v := Nat.mod_eq_of_lt (Nat.lt_of_lt_of_le hv (by decide))
  rw [g0, val_dig, hv32, Nat.pow_zero, Nat.one_mul, Nat.one_mul] at h0
  rw [g31] at h1
  have e1 : clamp v = v / 8 * 8 % 2 ^ 254 + 2 ^ 254 := rfl
  have e3 : v / 8 * 8 / 2 ^ 254 = v / 256 ^ 31 / 64 := by
    rw [show (2 : Nat) ^ 254 = 8 * 2 ^ 251 by decide, ← Nat.div_div_eq_div_mul, Nat.mul_div_cancel _ (by decide), Nat.div_div_eq_div_mul, Nat.div_div_eq_div_mul]
  have e2 := Nat.mod_add_div (v / 8 * 8) (2 ^ 254)
  have e4 := Nat.mod_add_div (v / 256 ^ 31) 64
  rw [e3] at e2
  clear g31 g0
  generalize v / 256 ^ 31 = t at *
  rw [e1]
  have k1 : (256 : Nat) ^ 31 = 452312848583266388373324160190187140051835877600158453279131187530910662656 := by decide
  have k2 : (2 : Nat) ^ 254 = 28948022309329048855892746252171976963317496166410141009864396001978282409984 := by decide
  rw [k1] at h1
  rw [k2] at e2 ⊢
  have e5 : v % 256 / 8 * 8 + (v - v % 256) = v / 8 * 8 := by omega
  have e6 : v % 256 ≤ v := Nat.mod_le _ _
  omega
end Go.Proofs.YtogebegdgfdijaaDoor.Rd
