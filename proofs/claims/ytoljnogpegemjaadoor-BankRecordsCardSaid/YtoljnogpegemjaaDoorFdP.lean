/- Reckoning modulo 2^255 - 19, in plain numbers, and what the code's steps come to. No program here; no condition. -/
import Derived.Test.YtoljnogpegemjaaDoorLL
namespace Go.Proofs.YtoljnogpegemjaaDoor.Fp
open Go.RowKit Lm

def p : Nat := 57896044618658097711785492504343953926634992332820282019728792003956564819949
theorem p_eq : p + 19 = 2 ^ 255 := by decide +kernel
theorem p_lt : p < 18446744073709551616 ^ 4 := by decide +kernel
theorem p_pos : 0 < p := by decide +kernel
theorem top_eq : 18446744073709551616 ^ 4 = 2 * p + 38 := by decide +kernel
def fadd (x y : Nat) : Nat := (x + y) % p
def fsub (x y : Nat) : Nat := (x + p - y) % p
def fmul (x y : Nat) : Nat := x * y % p
/-- The power by the highest n of 256 bits. -/
def fpow (a e : Nat) : Nat → Nat
  | 0 => 1
  | n + 1 => if e / 2 ^ (255 - n) % 2 = 1 then fmul (fmul (fpow a e n) (fpow a e n)) a else fmul (fpow a e n) (fpow a e n)
def finv (a : Nat) : Nat := fpow a (p - 2) 256
def eighth : Nat := 7237005577332262213973186563042994240829374041602535252466099000494570602494
def im : Nat := 19681161376707505956807079304988542015446066515923890162744021073123829784752
def fsqrt (a : Nat) : Nat × Bool :=
  let x := fpow a eighth 256
  let y := if fmul x x = a then x else fmul x im
  if fmul y y = a then (if y % 2 = 1 then fsub 0 y else y, true) else (0, false)
theorem eighth_eq : eighth = 2 ^ 252 - 2 := by decide +kernel
theorem im_sq : fmul im im = p - 1 := by decide +kernel

theorem fadd_lt (x y : Nat) : fadd x y < p := Nat.mod_lt _ p_pos
theorem fsub_lt (x y : Nat) : fsub x y < p := Nat.mod_lt _ p_pos
theorem fmul_lt (x y : Nat) : fmul x y < p := Nat.mod_lt _ p_pos
theorem fpow_lt (a e : Nat) : ∀ n, fpow a e n < p
  | 0 => by show 1 < p; decide +kernel
  | n + 1 => by
    unfold fpow
    split
    · exact fmul_lt _ _
    · exact fmul_lt _ _
theorem fsqrt_lt (a : Nat) : (fsqrt a).1 < p := by
  unfold fsqrt
  simp only
  repeat' split
  all_goals first | exact fsub_lt _ _ | exact p_pos | exact fpow_lt _ _ _ | exact fmul_lt _ _ | skip

/-- One round of Lessen: x less p, if that is none below nought. -/
def less1 (x : Nat) : Nat := if x < p then x else x - p
theorem mod_sub1 {x q : Nat} (h1 : q ≤ x) (h2 : x < 2 * q) : x % q = x - q := by
  rw [Nat.mod_eq_sub_mod h1, Nat.mod_eq_of_lt (by omega)]
theorem lessen_eq (x : Nat) (hx : x < 18446744073709551616 ^ 4) : less1 (less1 x) = x % p := by
  rw [top_eq] at hx
  have hp : 38 < p := by decide +kernel
  unfold less1
  generalize p = q at hx hp
  by_cases h1 : x < q
  · rw [if_pos h1, if_pos h1, Nat.mod_eq_of_lt h1]
  · rw [if_neg h1]
    by_cases h2 : x - q < q
    · rw [if_pos h2, mod_sub1 (by omega) (by omega)]
    · rw [if_neg h2, Nat.mod_eq_sub_mod (by omega), mod_sub1 (by omega) (by omega)]
theorem mod_add_mul (x q k : Nat) : (x + q * k) % q = x % q := Nat.add_mul_mod_self_left x q k
/-- What fold does, step by step. -/
theorem fold_eq (x c : Nat) (hx : x < 18446744073709551616 ^ 4) (hc : c ≤ 1000) :
    ((x + 38 * c) % 18446744073709551616 ^ 4 + 38 * ((x + 38 * c) / 18446744073709551616 ^ 4)) % 18446744073709551616 ^ 4 % p = (x + 18446744073709551616 ^ 4 * c) % p ∧ (x + 38 * c) / 18446744073709551616 ^ 4 ≤ 1 := by
  have hp : 100000 < p := by decide +kernel
  rw [top_eq] at hx ⊢
  generalize p = q at hx hp ⊢
  have e2 : (2 * q + 38) * c = 38 * c + q * (2 * c) := by grind
  rw [e2, ← Nat.add_assoc, mod_add_mul]
  by_cases h1 : x + 38 * c < 2 * q + 38
  · rw [Nat.mod_eq_of_lt h1, Nat.div_eq_of_lt h1, Nat.mul_zero, Nat.add_zero, Nat.mod_eq_of_lt h1]
    exact ⟨rfl, by omega⟩
  · have e3 : (x + 38 * c) / (2 * q + 38) = 1 := by
      rw [Nat.div_eq_of_lt_le] <;> omega
    have e4 : (x + 38 * c) % (2 * q + 38) = x + 38 * c - (2 * q + 38) := mod_sub1 (by omega) (by omega)
    have e5 : (x + 38 * c - (2 * q + 38) + 38 * 1) % (2 * q + 38) = x + 38 * c - 2 * q := by
      rw [Nat.mod_eq_of_lt (by omega)]
      omega
    rw [e3, e4, e5]
    refine ⟨?_, Nat.le_refl _⟩
    have e6 : (x + 38 * c) % q = (x + 38 * c - 2 * q + q * 2) % q := by
      congr 1
      omega
    rw [e6, mod_add_mul]
theorem plus_eq (x y : Nat) : ((x + y) % 18446744073709551616 ^ 4 + 18446744073709551616 ^ 4 * ((x + y) / 18446744073709551616 ^ 4)) % p = fadd x y := by
  rw [Nat.mod_add_div]; rfl
theorem minus_eq (x y : Nat) (hx : x < p) (hy : y < p) :
    (if x < y then ((x + 18446744073709551616 ^ 4 - y) % 18446744073709551616 ^ 4 + p) % 18446744073709551616 ^ 4 else (x + 18446744073709551616 ^ 4 - y) % 18446744073709551616 ^ 4) = fsub x y := by
  have hp := p_lt
  unfold fsub
  generalize 18446744073709551616 ^ 4 = T at hp ⊢
  generalize p = q at hx hy hp ⊢
  by_cases h : x < y
  · rw [if_pos h, Nat.mod_eq_of_lt (show x + T - y < T by omega), Nat.mod_eq_of_lt (show x + q - y < q by omega), mod_sub1 (by omega) (by omega)]
    omega
  · rw [if_neg h, show x + T - y = x - y + T by omega, Nat.add_mod_right, Nat.mod_eq_of_lt (by omega), show x + q - y = x - y + q by omega, Nat.add_mod_right, Nat.mod_eq_of_lt (by omega)]
theorem times_step (b k S X Y lo c c' x y : Nat) (h : S + b ^ k * c = X + 38 * Y) (hs : lo + b * c' = y * 38 + c + x) : (S + b ^ k * lo) + b ^ (k + 1) * c' = (X + b ^ k * x) + 38 * (Y + b ^ k * y) := by
  have e : b ^ k * (lo + b * c') = b ^ k * (y * 38 + c + x) := by rw [hs]
  rw [Nat.pow_succ]
  grind
theorem times_carry (lo c c' x y : Nat) (hs : lo + 18446744073709551616 * c' = y * 38 + c + x) (hx : x < 18446744073709551616) (hy : y < 18446744073709551616) (hc : c ≤ 39) : c' ≤ 39 := by omega
theorem times_eq (V n c lowv highv : Nat) (h : n + 18446744073709551616 ^ 4 * c = lowv + 38 * highv) (hv : V = lowv + 18446744073709551616 ^ 4 * highv) : (n + 18446744073709551616 ^ 4 * c) % p = V % p := by
  rw [h, hv, top_eq, show lowv + (2 * p + 38) * highv = lowv + 38 * highv + p * (2 * highv) by grind, mod_add_mul]
theorem pow_next (a e n : Nat) : fpow a e (n + 1) = if e / 2 ^ (255 - n) % 2 = 1 then fmul (fmul (fpow a e n) (fpow a e n)) a else fmul (fpow a e n) (fpow a e n) := rfl
/-- A bit out of a limb. -/
theorem bit_limb (v k : Nat) : v / 18446744073709551616 ^ (k / 64) % 18446744073709551616 / 2 ^ (k % 64) % 2 = v / 2 ^ k % 2 := by
  have e : 2 ^ k = 18446744073709551616 ^ (k / 64) * 2 ^ (k % 64) := by
    rw [show (18446744073709551616 : Nat) = 2 ^ 64 by rfl, ← Nat.pow_mul, ← Nat.pow_add]
    congr 1
    omega
  rw [e, ← Nat.div_div_eq_div_mul]
  generalize v / 18446744073709551616 ^ (k / 64) = y
  have h8 : k % 64 < 64 := Nat.mod_lt _ (by decide)
  generalize k % 64 = s at h8 ⊢
  have hB : (18446744073709551616 : Nat) = 2 ^ s * (2 * 2 ^ (63 - s)) := by
    rw [show (18446744073709551616 : Nat) = 2 ^ 64 by rfl, ← Nat.pow_succ', ← Nat.pow_add]
    congr 1
    omega
  rw [hB, Nat.mod_mul_right_div_self, Nat.mod_mul_right_mod]
end Go.Proofs.YtoljnogpegemjaaDoor.Fp
